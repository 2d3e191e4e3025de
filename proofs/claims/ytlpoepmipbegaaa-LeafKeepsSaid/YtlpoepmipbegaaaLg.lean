/- The leaf package, on: is a node in form; a copy of cells. -/
import Derived.Test.YtlpoepmipbegaaaLf
set_option linter.unusedVariables false
set_option linter.unusedSimpArgs false
namespace Go.Proofs.Ytlpoepmipbegaaa.Lf
open Go Go.RowKit Go.Proofs.Ytlpoepmipbegaaa.En Go.Proofs.Ytlpoepmipbegaaa.Lm

set_option maxHeartbeats 4000000 in
set_option maxRecDepth 20000 in
theorem Clone_ (A : Option Addr) (n c : Nat) (ps : List Pr) (w : World) (hr : Rd w A n 2 (fl ps)) (hn : n ≤ 4294967296) :
    Calls Try.prog 14 #[.slice A n c] w fun en w1 => ∃ r, en = .returned r ∧ ∃ A' c', r = .slice A' n c' ∧ SlOk A' n c' 2 (fl ps) ∧ Own w [] [sl A' c' 36 2 (fl ps)] w1 := by
  refine fn_enter (args := [_]) (F := []) Try.func14 rfl rfl rfl ?_
  have u22 := Try.underlying22; have z22 := Ty.z22; have i22 := Ty.i22; have u36 := Try.underlying36; have z36 := Ty.z36; have i36 := Ty.i36; have p36 := Ty.p36; have q36_0 := Ty.q36_0; have q36_1 := Ty.q36_1
  have hlen := rd_len hr
  repeat (first
    | refine x_seq ?_ | refine x_region ?_ | refine x_nil ?_ | refine x_block ?_ | refine x_skip ?_ | refine x_exit rfl ?_ | refine x_true rfl ?_ | refine x_false rfl ?_ | refine x_ret ?_ | refine x_tend ?_
    | refine x_off rfl rfl ?_ | refine x_off0 rfl ?_
    | refine x_op rfl (x_val (r_move rfl) rfl ?_)
    | refine x_op rfl (x_val (r_assign rfl) rfl ?_)
    | refine x_op rfl (x_val (r_extract rfl rfl) rfl ?_)
    | refine x_op rfl (x_val (r_pick_t rfl rfl) rfl ?_)
    | refine x_op rfl (x_val (r_pick_f rfl rfl) rfl ?_)
    | refine x_op rfl (x_val (r_fieldAddr (by assumption) rfl) rfl ?_)
    | refine x_op rfl (x_val (by first | exact r_own_add (i := 0) (by assumption) rfl rfl rfl | exact r_own_add (i := 1) (by assumption) rfl rfl rfl | exact r_own_add (i := 2) (by assumption) rfl rfl rfl | exact r_own_add (i := 3) (by assumption) rfl rfl rfl | exact r_own_add (i := 4) (by assumption) rfl rfl rfl | exact r_own_add (i := 5) (by assumption) rfl rfl rfl | exact r_own (i := 0) (by assumption) rfl rfl rfl | exact r_own (i := 1) (by assumption) rfl rfl rfl | exact r_own (i := 2) (by assumption) rfl rfl rfl | exact r_own (i := 3) (by assumption) rfl rfl rfl | exact r_own (i := 4) (by assumption) rfl rfl rfl | exact r_own (i := 5) (by assumption) rfl rfl rfl) rfl ?_)
    | refine x_op rfl (x_val (r_len_string (by assumption) rfl) rfl ?_)
    | refine x_op rfl (x_val (r_len_slice (by assumption) rfl) rfl ?_)
    | refine x_op rfl (x_val (r_cap_slice (by assumption) rfl) rfl ?_)
    | refine x_op rfl (x_val (r_not rfl rfl) rfl ?_)
    | refine x_op rfl (x_val (r_add rfl rfl ⟨by omega, by omega⟩) rfl ?_)
    | refine x_op rfl (x_val (r_sub rfl rfl ⟨by omega, by omega⟩) rfl ?_)
    | refine x_op rfl (x_val (r_build (by assumption) (by assumption) rfl rfl) rfl ?_)
    | refine x_op rfl (x_val (r_nilCheck rfl) rfl ?_)
    | refine x_op rfl (x_val (r_lss (r := true) rfl rfl (decide_eq_true (by omega))) rfl ?_)
    | refine x_op rfl (x_val (r_lss (r := false) rfl rfl (decide_eq_false (by omega))) rfl ?_)
    | refine x_op rfl (x_val (r_leq (r := true) rfl rfl (decide_eq_true (by omega))) rfl ?_)
    | refine x_op rfl (x_val (r_leq (r := false) rfl rfl (decide_eq_false (by omega))) rfl ?_)
    | refine x_op rfl (x_val (r_gtr (r := true) rfl rfl (decide_eq_true (by omega))) rfl ?_)
    | refine x_op rfl (x_val (r_gtr (r := false) rfl rfl (decide_eq_false (by omega))) rfl ?_)
    | refine x_op rfl (x_val (r_geq (r := true) rfl rfl (decide_eq_true (by omega))) rfl ?_)
    | refine x_op rfl (x_val (r_geq (r := false) rfl rfl (decide_eq_false (by omega))) rfl ?_)
    | refine x_op rfl (x_val (r_eql (r := true) rfl rfl (decide_eq_true (by omega))) rfl ?_)
    | refine x_op rfl (x_val (r_eql (r := false) rfl rfl (decide_eq_false (by omega))) rfl ?_)
    | refine x_op rfl (x_val (r_neq (r := true) rfl rfl (decide_eq_true (by omega))) rfl ?_)
    | refine x_op rfl (x_val (r_neq (r := false) rfl rfl (decide_eq_false (by omega))) rfl ?_)
    | refine x_op rfl (x_val (by first | exact r_ownN (i := 0) (by assumption) rfl rfl rfl | exact r_ownN (i := 1) (by assumption) rfl rfl rfl | exact r_ownN (i := 2) (by assumption) rfl rfl rfl | exact r_ownN (i := 3) (by assumption) rfl rfl rfl | exact r_ownN (i := 4) (by assumption) rfl rfl rfl | exact r_ownN (i := 5) (by assumption) rfl rfl rfl) rfl ?_)
    | refine x_op rfl (s_store (i := 0) (by assumption) rfl rfl rfl rfl rfl rfl ?_)
    | refine x_op rfl (s_store (i := 1) (by assumption) rfl rfl rfl rfl rfl rfl ?_)
    | refine x_op rfl (s_store (i := 2) (by assumption) rfl rfl rfl rfl rfl rfl ?_)
    | refine x_op rfl (s_store (i := 3) (by assumption) rfl rfl rfl rfl rfl rfl ?_)
    | refine x_op rfl (s_store (i := 4) (by assumption) rfl rfl rfl rfl rfl rfl ?_)
    | refine x_op rfl (s_store (i := 5) (by assumption) rfl rfl rfl rfl rfl rfl ?_)
    | refine x_op rfl (s_box rfl rfl fun b hb => ?_) | refine x_op rfl (s_alloc (by assumption) rfl fun b hb => ?_))
  cases A with
  | none =>
    have hn0 : n = 0 := by
      rcases Nat.eq_zero_or_pos n with h | h
      · exact h
      · obtain ⟨_, h1⟩ := hr.some_ h; cases h1
    subst hn0
    have hps : ps = [] := List.eq_nil_of_length_eq_zero hlen
    subst hps
    refine x_op rfl (x_val (r_eql_slice_nil u22 rfl rfl rfl) rfl ?_)
    repeat (first
    | refine x_seq ?_ | refine x_region ?_ | refine x_nil ?_ | refine x_block ?_ | refine x_skip ?_ | refine x_exit rfl ?_ | refine x_true rfl ?_ | refine x_false rfl ?_ | refine x_ret ?_ | refine x_tend ?_
    | refine x_off rfl rfl ?_ | refine x_off0 rfl ?_
    | refine x_op rfl (x_val (r_move rfl) rfl ?_)
    | refine x_op rfl (x_val (r_assign rfl) rfl ?_)
    | refine x_op rfl (x_val (r_extract rfl rfl) rfl ?_)
    | refine x_op rfl (x_val (r_pick_t rfl rfl) rfl ?_)
    | refine x_op rfl (x_val (r_pick_f rfl rfl) rfl ?_)
    | refine x_op rfl (x_val (r_fieldAddr (by assumption) rfl) rfl ?_)
    | refine x_op rfl (x_val (by first | exact r_own_add (i := 0) (by assumption) rfl rfl rfl | exact r_own_add (i := 1) (by assumption) rfl rfl rfl | exact r_own_add (i := 2) (by assumption) rfl rfl rfl | exact r_own_add (i := 3) (by assumption) rfl rfl rfl | exact r_own_add (i := 4) (by assumption) rfl rfl rfl | exact r_own_add (i := 5) (by assumption) rfl rfl rfl | exact r_own (i := 0) (by assumption) rfl rfl rfl | exact r_own (i := 1) (by assumption) rfl rfl rfl | exact r_own (i := 2) (by assumption) rfl rfl rfl | exact r_own (i := 3) (by assumption) rfl rfl rfl | exact r_own (i := 4) (by assumption) rfl rfl rfl | exact r_own (i := 5) (by assumption) rfl rfl rfl) rfl ?_)
    | refine x_op rfl (x_val (r_len_string (by assumption) rfl) rfl ?_)
    | refine x_op rfl (x_val (r_len_slice (by assumption) rfl) rfl ?_)
    | refine x_op rfl (x_val (r_cap_slice (by assumption) rfl) rfl ?_)
    | refine x_op rfl (x_val (r_not rfl rfl) rfl ?_)
    | refine x_op rfl (x_val (r_add rfl rfl ⟨by omega, by omega⟩) rfl ?_)
    | refine x_op rfl (x_val (r_sub rfl rfl ⟨by omega, by omega⟩) rfl ?_)
    | refine x_op rfl (x_val (r_build (by assumption) (by assumption) rfl rfl) rfl ?_)
    | refine x_op rfl (x_val (r_nilCheck rfl) rfl ?_)
    | refine x_op rfl (x_val (r_lss (r := true) rfl rfl (decide_eq_true (by omega))) rfl ?_)
    | refine x_op rfl (x_val (r_lss (r := false) rfl rfl (decide_eq_false (by omega))) rfl ?_)
    | refine x_op rfl (x_val (r_leq (r := true) rfl rfl (decide_eq_true (by omega))) rfl ?_)
    | refine x_op rfl (x_val (r_leq (r := false) rfl rfl (decide_eq_false (by omega))) rfl ?_)
    | refine x_op rfl (x_val (r_gtr (r := true) rfl rfl (decide_eq_true (by omega))) rfl ?_)
    | refine x_op rfl (x_val (r_gtr (r := false) rfl rfl (decide_eq_false (by omega))) rfl ?_)
    | refine x_op rfl (x_val (r_geq (r := true) rfl rfl (decide_eq_true (by omega))) rfl ?_)
    | refine x_op rfl (x_val (r_geq (r := false) rfl rfl (decide_eq_false (by omega))) rfl ?_)
    | refine x_op rfl (x_val (r_eql (r := true) rfl rfl (decide_eq_true (by omega))) rfl ?_)
    | refine x_op rfl (x_val (r_eql (r := false) rfl rfl (decide_eq_false (by omega))) rfl ?_)
    | refine x_op rfl (x_val (r_neq (r := true) rfl rfl (decide_eq_true (by omega))) rfl ?_)
    | refine x_op rfl (x_val (r_neq (r := false) rfl rfl (decide_eq_false (by omega))) rfl ?_)
    | refine x_op rfl (x_val (by first | exact r_ownN (i := 0) (by assumption) rfl rfl rfl | exact r_ownN (i := 1) (by assumption) rfl rfl rfl | exact r_ownN (i := 2) (by assumption) rfl rfl rfl | exact r_ownN (i := 3) (by assumption) rfl rfl rfl | exact r_ownN (i := 4) (by assumption) rfl rfl rfl | exact r_ownN (i := 5) (by assumption) rfl rfl rfl) rfl ?_)
    | refine x_op rfl (s_store (i := 0) (by assumption) rfl rfl rfl rfl rfl rfl ?_)
    | refine x_op rfl (s_store (i := 1) (by assumption) rfl rfl rfl rfl rfl rfl ?_)
    | refine x_op rfl (s_store (i := 2) (by assumption) rfl rfl rfl rfl rfl rfl ?_)
    | refine x_op rfl (s_store (i := 3) (by assumption) rfl rfl rfl rfl rfl rfl ?_)
    | refine x_op rfl (s_store (i := 4) (by assumption) rfl rfl rfl rfl rfl rfl ?_)
    | refine x_op rfl (s_store (i := 5) (by assumption) rfl rfl rfl rfl rfl rfl ?_)
    | refine x_op rfl (s_box rfl rfl fun b hb => ?_) | refine x_op rfl (s_alloc (by assumption) rfl fun b hb => ?_))
    exact x_ret1 rfl rfl fun w1 hO => ⟨_, rfl, none, 0, rfl, SlOk.nil_ 2, hO.nilsl _ _⟩
  | some a =>
    refine x_op rfl (x_val (r_eql_slice_nil u22 rfl rfl rfl) rfl ?_)
    repeat (first
    | refine x_seq ?_ | refine x_region ?_ | refine x_nil ?_ | refine x_block ?_ | refine x_skip ?_ | refine x_exit rfl ?_ | refine x_true rfl ?_ | refine x_false rfl ?_ | refine x_ret ?_ | refine x_tend ?_
    | refine x_off rfl rfl ?_ | refine x_off0 rfl ?_
    | refine x_op rfl (x_val (r_move rfl) rfl ?_)
    | refine x_op rfl (x_val (r_assign rfl) rfl ?_)
    | refine x_op rfl (x_val (r_extract rfl rfl) rfl ?_)
    | refine x_op rfl (x_val (r_pick_t rfl rfl) rfl ?_)
    | refine x_op rfl (x_val (r_pick_f rfl rfl) rfl ?_)
    | refine x_op rfl (x_val (r_fieldAddr (by assumption) rfl) rfl ?_)
    | refine x_op rfl (x_val (by first | exact r_own_add (i := 0) (by assumption) rfl rfl rfl | exact r_own_add (i := 1) (by assumption) rfl rfl rfl | exact r_own_add (i := 2) (by assumption) rfl rfl rfl | exact r_own_add (i := 3) (by assumption) rfl rfl rfl | exact r_own_add (i := 4) (by assumption) rfl rfl rfl | exact r_own_add (i := 5) (by assumption) rfl rfl rfl | exact r_own (i := 0) (by assumption) rfl rfl rfl | exact r_own (i := 1) (by assumption) rfl rfl rfl | exact r_own (i := 2) (by assumption) rfl rfl rfl | exact r_own (i := 3) (by assumption) rfl rfl rfl | exact r_own (i := 4) (by assumption) rfl rfl rfl | exact r_own (i := 5) (by assumption) rfl rfl rfl) rfl ?_)
    | refine x_op rfl (x_val (r_len_string (by assumption) rfl) rfl ?_)
    | refine x_op rfl (x_val (r_len_slice (by assumption) rfl) rfl ?_)
    | refine x_op rfl (x_val (r_cap_slice (by assumption) rfl) rfl ?_)
    | refine x_op rfl (x_val (r_not rfl rfl) rfl ?_)
    | refine x_op rfl (x_val (r_add rfl rfl ⟨by omega, by omega⟩) rfl ?_)
    | refine x_op rfl (x_val (r_sub rfl rfl ⟨by omega, by omega⟩) rfl ?_)
    | refine x_op rfl (x_val (r_build (by assumption) (by assumption) rfl rfl) rfl ?_)
    | refine x_op rfl (x_val (r_nilCheck rfl) rfl ?_)
    | refine x_op rfl (x_val (r_lss (r := true) rfl rfl (decide_eq_true (by omega))) rfl ?_)
    | refine x_op rfl (x_val (r_lss (r := false) rfl rfl (decide_eq_false (by omega))) rfl ?_)
    | refine x_op rfl (x_val (r_leq (r := true) rfl rfl (decide_eq_true (by omega))) rfl ?_)
    | refine x_op rfl (x_val (r_leq (r := false) rfl rfl (decide_eq_false (by omega))) rfl ?_)
    | refine x_op rfl (x_val (r_gtr (r := true) rfl rfl (decide_eq_true (by omega))) rfl ?_)
    | refine x_op rfl (x_val (r_gtr (r := false) rfl rfl (decide_eq_false (by omega))) rfl ?_)
    | refine x_op rfl (x_val (r_geq (r := true) rfl rfl (decide_eq_true (by omega))) rfl ?_)
    | refine x_op rfl (x_val (r_geq (r := false) rfl rfl (decide_eq_false (by omega))) rfl ?_)
    | refine x_op rfl (x_val (r_eql (r := true) rfl rfl (decide_eq_true (by omega))) rfl ?_)
    | refine x_op rfl (x_val (r_eql (r := false) rfl rfl (decide_eq_false (by omega))) rfl ?_)
    | refine x_op rfl (x_val (r_neq (r := true) rfl rfl (decide_eq_true (by omega))) rfl ?_)
    | refine x_op rfl (x_val (r_neq (r := false) rfl rfl (decide_eq_false (by omega))) rfl ?_)
    | refine x_op rfl (x_val (by first | exact r_ownN (i := 0) (by assumption) rfl rfl rfl | exact r_ownN (i := 1) (by assumption) rfl rfl rfl | exact r_ownN (i := 2) (by assumption) rfl rfl rfl | exact r_ownN (i := 3) (by assumption) rfl rfl rfl | exact r_ownN (i := 4) (by assumption) rfl rfl rfl | exact r_ownN (i := 5) (by assumption) rfl rfl rfl) rfl ?_)
    | refine x_op rfl (s_store (i := 0) (by assumption) rfl rfl rfl rfl rfl rfl ?_)
    | refine x_op rfl (s_store (i := 1) (by assumption) rfl rfl rfl rfl rfl rfl ?_)
    | refine x_op rfl (s_store (i := 2) (by assumption) rfl rfl rfl rfl rfl rfl ?_)
    | refine x_op rfl (s_store (i := 3) (by assumption) rfl rfl rfl rfl rfl rfl ?_)
    | refine x_op rfl (s_store (i := 4) (by assumption) rfl rfl rfl rfl rfl rfl ?_)
    | refine x_op rfl (s_store (i := 5) (by assumption) rfl rfl rfl rfl rfl rfl ?_)
    | refine x_op rfl (s_box rfl rfl fun b hb => ?_) | refine x_op rfl (s_alloc (by assumption) rfl fun b hb => ?_))
    refine x_op rfl (s_buildSlice u22 i36 rfl rfl rfl rfl fun b hb => ?_)
    repeat (first
    | refine x_seq ?_ | refine x_region ?_ | refine x_nil ?_ | refine x_block ?_ | refine x_skip ?_ | refine x_exit rfl ?_ | refine x_true rfl ?_ | refine x_false rfl ?_ | refine x_ret ?_ | refine x_tend ?_
    | refine x_off rfl rfl ?_ | refine x_off0 rfl ?_
    | refine x_op rfl (x_val (r_move rfl) rfl ?_)
    | refine x_op rfl (x_val (r_assign rfl) rfl ?_)
    | refine x_op rfl (x_val (r_extract rfl rfl) rfl ?_)
    | refine x_op rfl (x_val (r_pick_t rfl rfl) rfl ?_)
    | refine x_op rfl (x_val (r_pick_f rfl rfl) rfl ?_)
    | refine x_op rfl (x_val (r_fieldAddr (by assumption) rfl) rfl ?_)
    | refine x_op rfl (x_val (by first | exact r_own_add (i := 0) (by assumption) rfl rfl rfl | exact r_own_add (i := 1) (by assumption) rfl rfl rfl | exact r_own_add (i := 2) (by assumption) rfl rfl rfl | exact r_own_add (i := 3) (by assumption) rfl rfl rfl | exact r_own_add (i := 4) (by assumption) rfl rfl rfl | exact r_own_add (i := 5) (by assumption) rfl rfl rfl | exact r_own (i := 0) (by assumption) rfl rfl rfl | exact r_own (i := 1) (by assumption) rfl rfl rfl | exact r_own (i := 2) (by assumption) rfl rfl rfl | exact r_own (i := 3) (by assumption) rfl rfl rfl | exact r_own (i := 4) (by assumption) rfl rfl rfl | exact r_own (i := 5) (by assumption) rfl rfl rfl) rfl ?_)
    | refine x_op rfl (x_val (r_len_string (by assumption) rfl) rfl ?_)
    | refine x_op rfl (x_val (r_len_slice (by assumption) rfl) rfl ?_)
    | refine x_op rfl (x_val (r_cap_slice (by assumption) rfl) rfl ?_)
    | refine x_op rfl (x_val (r_not rfl rfl) rfl ?_)
    | refine x_op rfl (x_val (r_add rfl rfl ⟨by omega, by omega⟩) rfl ?_)
    | refine x_op rfl (x_val (r_sub rfl rfl ⟨by omega, by omega⟩) rfl ?_)
    | refine x_op rfl (x_val (r_build (by assumption) (by assumption) rfl rfl) rfl ?_)
    | refine x_op rfl (x_val (r_nilCheck rfl) rfl ?_)
    | refine x_op rfl (x_val (r_lss (r := true) rfl rfl (decide_eq_true (by omega))) rfl ?_)
    | refine x_op rfl (x_val (r_lss (r := false) rfl rfl (decide_eq_false (by omega))) rfl ?_)
    | refine x_op rfl (x_val (r_leq (r := true) rfl rfl (decide_eq_true (by omega))) rfl ?_)
    | refine x_op rfl (x_val (r_leq (r := false) rfl rfl (decide_eq_false (by omega))) rfl ?_)
    | refine x_op rfl (x_val (r_gtr (r := true) rfl rfl (decide_eq_true (by omega))) rfl ?_)
    | refine x_op rfl (x_val (r_gtr (r := false) rfl rfl (decide_eq_false (by omega))) rfl ?_)
    | refine x_op rfl (x_val (r_geq (r := true) rfl rfl (decide_eq_true (by omega))) rfl ?_)
    | refine x_op rfl (x_val (r_geq (r := false) rfl rfl (decide_eq_false (by omega))) rfl ?_)
    | refine x_op rfl (x_val (r_eql (r := true) rfl rfl (decide_eq_true (by omega))) rfl ?_)
    | refine x_op rfl (x_val (r_eql (r := false) rfl rfl (decide_eq_false (by omega))) rfl ?_)
    | refine x_op rfl (x_val (r_neq (r := true) rfl rfl (decide_eq_true (by omega))) rfl ?_)
    | refine x_op rfl (x_val (r_neq (r := false) rfl rfl (decide_eq_false (by omega))) rfl ?_)
    | refine x_op rfl (x_val (by first | exact r_ownN (i := 0) (by assumption) rfl rfl rfl | exact r_ownN (i := 1) (by assumption) rfl rfl rfl | exact r_ownN (i := 2) (by assumption) rfl rfl rfl | exact r_ownN (i := 3) (by assumption) rfl rfl rfl | exact r_ownN (i := 4) (by assumption) rfl rfl rfl | exact r_ownN (i := 5) (by assumption) rfl rfl rfl) rfl ?_)
    | refine x_op rfl (s_store (i := 0) (by assumption) rfl rfl rfl rfl rfl rfl ?_)
    | refine x_op rfl (s_store (i := 1) (by assumption) rfl rfl rfl rfl rfl rfl ?_)
    | refine x_op rfl (s_store (i := 2) (by assumption) rfl rfl rfl rfl rfl rfl ?_)
    | refine x_op rfl (s_store (i := 3) (by assumption) rfl rfl rfl rfl rfl rfl ?_)
    | refine x_op rfl (s_store (i := 4) (by assumption) rfl rfl rfl rfl rfl rfl ?_)
    | refine x_op rfl (s_store (i := 5) (by assumption) rfl rfl rfl rfl rfl rfl ?_)
    | refine x_op rfl (s_box rfl rfl fun b hb => ?_) | refine x_op rfl (s_alloc (by assumption) rfl fun b hb => ?_))
    refine x_heap (L' := [sl (some ⟨b, 0, none⟩) 0 36 2 []]) (fun w hO => hO.blsl rfl (fun j u hu => by simp at hu)) ?_
    refine x_op rfl (s_append (i := 0) u22 i36 rfl (by omega) rfl rfl rfl rfl (SlOk.made rfl (Nat.le_refl _) (by simp [maxLen])) (fun w hO => hO.rd0 hr) (fl_one ps) (by simp only [maxLen]; omega) (by omega) fun A' c' hok => ?_)
    repeat (first
    | refine x_seq ?_ | refine x_region ?_ | refine x_nil ?_ | refine x_block ?_ | refine x_skip ?_ | refine x_exit rfl ?_ | refine x_true rfl ?_ | refine x_false rfl ?_ | refine x_ret ?_ | refine x_tend ?_
    | refine x_off rfl rfl ?_ | refine x_off0 rfl ?_
    | refine x_op rfl (x_val (r_move rfl) rfl ?_)
    | refine x_op rfl (x_val (r_assign rfl) rfl ?_)
    | refine x_op rfl (x_val (r_extract rfl rfl) rfl ?_)
    | refine x_op rfl (x_val (r_pick_t rfl rfl) rfl ?_)
    | refine x_op rfl (x_val (r_pick_f rfl rfl) rfl ?_)
    | refine x_op rfl (x_val (r_fieldAddr (by assumption) rfl) rfl ?_)
    | refine x_op rfl (x_val (by first | exact r_own_add (i := 0) (by assumption) rfl rfl rfl | exact r_own_add (i := 1) (by assumption) rfl rfl rfl | exact r_own_add (i := 2) (by assumption) rfl rfl rfl | exact r_own_add (i := 3) (by assumption) rfl rfl rfl | exact r_own_add (i := 4) (by assumption) rfl rfl rfl | exact r_own_add (i := 5) (by assumption) rfl rfl rfl | exact r_own (i := 0) (by assumption) rfl rfl rfl | exact r_own (i := 1) (by assumption) rfl rfl rfl | exact r_own (i := 2) (by assumption) rfl rfl rfl | exact r_own (i := 3) (by assumption) rfl rfl rfl | exact r_own (i := 4) (by assumption) rfl rfl rfl | exact r_own (i := 5) (by assumption) rfl rfl rfl) rfl ?_)
    | refine x_op rfl (x_val (r_len_string (by assumption) rfl) rfl ?_)
    | refine x_op rfl (x_val (r_len_slice (by assumption) rfl) rfl ?_)
    | refine x_op rfl (x_val (r_cap_slice (by assumption) rfl) rfl ?_)
    | refine x_op rfl (x_val (r_not rfl rfl) rfl ?_)
    | refine x_op rfl (x_val (r_add rfl rfl ⟨by omega, by omega⟩) rfl ?_)
    | refine x_op rfl (x_val (r_sub rfl rfl ⟨by omega, by omega⟩) rfl ?_)
    | refine x_op rfl (x_val (r_build (by assumption) (by assumption) rfl rfl) rfl ?_)
    | refine x_op rfl (x_val (r_nilCheck rfl) rfl ?_)
    | refine x_op rfl (x_val (r_lss (r := true) rfl rfl (decide_eq_true (by omega))) rfl ?_)
    | refine x_op rfl (x_val (r_lss (r := false) rfl rfl (decide_eq_false (by omega))) rfl ?_)
    | refine x_op rfl (x_val (r_leq (r := true) rfl rfl (decide_eq_true (by omega))) rfl ?_)
    | refine x_op rfl (x_val (r_leq (r := false) rfl rfl (decide_eq_false (by omega))) rfl ?_)
    | refine x_op rfl (x_val (r_gtr (r := true) rfl rfl (decide_eq_true (by omega))) rfl ?_)
    | refine x_op rfl (x_val (r_gtr (r := false) rfl rfl (decide_eq_false (by omega))) rfl ?_)
    | refine x_op rfl (x_val (r_geq (r := true) rfl rfl (decide_eq_true (by omega))) rfl ?_)
    | refine x_op rfl (x_val (r_geq (r := false) rfl rfl (decide_eq_false (by omega))) rfl ?_)
    | refine x_op rfl (x_val (r_eql (r := true) rfl rfl (decide_eq_true (by omega))) rfl ?_)
    | refine x_op rfl (x_val (r_eql (r := false) rfl rfl (decide_eq_false (by omega))) rfl ?_)
    | refine x_op rfl (x_val (r_neq (r := true) rfl rfl (decide_eq_true (by omega))) rfl ?_)
    | refine x_op rfl (x_val (r_neq (r := false) rfl rfl (decide_eq_false (by omega))) rfl ?_)
    | refine x_op rfl (x_val (by first | exact r_ownN (i := 0) (by assumption) rfl rfl rfl | exact r_ownN (i := 1) (by assumption) rfl rfl rfl | exact r_ownN (i := 2) (by assumption) rfl rfl rfl | exact r_ownN (i := 3) (by assumption) rfl rfl rfl | exact r_ownN (i := 4) (by assumption) rfl rfl rfl | exact r_ownN (i := 5) (by assumption) rfl rfl rfl) rfl ?_)
    | refine x_op rfl (s_store (i := 0) (by assumption) rfl rfl rfl rfl rfl rfl ?_)
    | refine x_op rfl (s_store (i := 1) (by assumption) rfl rfl rfl rfl rfl rfl ?_)
    | refine x_op rfl (s_store (i := 2) (by assumption) rfl rfl rfl rfl rfl rfl ?_)
    | refine x_op rfl (s_store (i := 3) (by assumption) rfl rfl rfl rfl rfl rfl ?_)
    | refine x_op rfl (s_store (i := 4) (by assumption) rfl rfl rfl rfl rfl rfl ?_)
    | refine x_op rfl (s_store (i := 5) (by assumption) rfl rfl rfl rfl rfl rfl ?_)
    | refine x_op rfl (s_box rfl rfl fun b hb => ?_) | refine x_op rfl (s_alloc (by assumption) rfl fun b hb => ?_))
    rw [Nat.zero_add] at *
    exact x_ret1 rfl rfl fun w1 hO => ⟨_, rfl, A', c', rfl, hok, hO⟩

theorem nil_toList : (⟨#[]⟩ : ByteArray).toList = [] := by rw [ByteArray.toList_eq]
theorem right_bad {br : Bool} {first : Int} {ps : List Pr} {k : Nat} {p : Pr} (hp : ps[k]? = some p) (hI : rightL br none ps = rightL br (prevOf ps k) (ps.drop k)) (hc : cellOk br (prevOf ps k) p = false) : rightB br first ps = false := by
  unfold rightB
  rw [hI, rightL_step hp, hc]
  simp
set_option maxHeartbeats 4000000 in
set_option maxRecDepth 20000 in
theorem right_ (br : Bool) (first : Int) (A : Option Addr) (n c : Nat) (ps : List Pr) (w : World) (hr : Rd w A n 2 (fl ps)) (hsz : ∀ p ∈ ps, p.1.size ≤ maxLen ∧ p.2.size ≤ maxLen) :
    Calls Try.prog 11 #[.agg #[.bool br, .int .i64 first, .slice A n c]] w fun en w1 => ∃ r, en = .returned r ∧ (r = .bool (rightB br first ps) ∧ Own w [] [] w1) := by
  refine fn_enter (args := [_]) (F := []) Try.func11 rfl rfl rfl ?_
  have u26 := Try.underlying26; have z26 := Ty.z26; have i26 := Ty.i26; have p26 := Ty.p26; have q26_0 := Ty.q26_0; have q26_1 := Ty.q26_1; have q26_2 := Ty.q26_2; have u22 := Try.underlying22; have z22 := Ty.z22; have i22 := Ty.i22; have u36 := Try.underlying36; have z36 := Ty.z36; have i36 := Ty.i36; have p36 := Ty.p36; have q36_0 := Ty.q36_0; have q36_1 := Ty.q36_1; have u9 := Try.underlying9; have z9 := Ty.z9; have i9 := Ty.i9; have u3 := Try.underlying3; have z3 := Ty.z3; have i3 := Ty.i3; have u4 := Try.underlying4; have z4 := Ty.z4; have i4 := Ty.i4
  have hlen := rd_len hr
  refine x_seq ?_
  repeat (first
    | refine x_region ?_ | refine x_nil ?_ | refine x_tend ?_
    | refine x_off rfl rfl ?_ | refine x_off0 rfl ?_
    | refine x_op rfl (x_val (r_move rfl) rfl ?_)
    | refine x_op rfl (x_val (r_assign rfl) rfl ?_)
    | refine x_op rfl (x_val (r_extract rfl rfl) rfl ?_)
    | refine x_op rfl (x_val (r_pick_t rfl rfl) rfl ?_)
    | refine x_op rfl (x_val (r_pick_f rfl rfl) rfl ?_)
    | refine x_op rfl (x_val (r_fieldAddr (by assumption) rfl) rfl ?_)
    | refine x_op rfl (x_val (by first | exact r_own_add (i := 0) (by assumption) rfl rfl rfl | exact r_own_add (i := 1) (by assumption) rfl rfl rfl | exact r_own_add (i := 2) (by assumption) rfl rfl rfl | exact r_own_add (i := 3) (by assumption) rfl rfl rfl | exact r_own_add (i := 4) (by assumption) rfl rfl rfl | exact r_own_add (i := 5) (by assumption) rfl rfl rfl | exact r_own (i := 0) (by assumption) rfl rfl rfl | exact r_own (i := 1) (by assumption) rfl rfl rfl | exact r_own (i := 2) (by assumption) rfl rfl rfl | exact r_own (i := 3) (by assumption) rfl rfl rfl | exact r_own (i := 4) (by assumption) rfl rfl rfl | exact r_own (i := 5) (by assumption) rfl rfl rfl) rfl ?_)
    | refine x_op rfl (x_val (r_len_string (by assumption) rfl) rfl ?_)
    | refine x_op rfl (x_val (r_len_slice (by assumption) rfl) rfl ?_)
    | refine x_op rfl (x_val (r_cap_slice (by assumption) rfl) rfl ?_)
    | refine x_op rfl (x_val (r_not rfl rfl) rfl ?_)
    | refine x_op rfl (x_val (r_add rfl rfl ⟨by omega, by omega⟩) rfl ?_)
    | refine x_op rfl (x_val (r_sub rfl rfl ⟨by omega, by omega⟩) rfl ?_)
    | refine x_op rfl (x_val (r_build (by assumption) (by assumption) rfl rfl) rfl ?_)
    | refine x_op rfl (x_val (r_nilCheck rfl) rfl ?_)
    | refine x_op rfl (x_val (r_lss (r := true) rfl rfl (decide_eq_true (by omega))) rfl ?_)
    | refine x_op rfl (x_val (r_lss (r := false) rfl rfl (decide_eq_false (by omega))) rfl ?_)
    | refine x_op rfl (x_val (r_leq (r := true) rfl rfl (decide_eq_true (by omega))) rfl ?_)
    | refine x_op rfl (x_val (r_leq (r := false) rfl rfl (decide_eq_false (by omega))) rfl ?_)
    | refine x_op rfl (x_val (r_gtr (r := true) rfl rfl (decide_eq_true (by omega))) rfl ?_)
    | refine x_op rfl (x_val (r_gtr (r := false) rfl rfl (decide_eq_false (by omega))) rfl ?_)
    | refine x_op rfl (x_val (r_geq (r := true) rfl rfl (decide_eq_true (by omega))) rfl ?_)
    | refine x_op rfl (x_val (r_geq (r := false) rfl rfl (decide_eq_false (by omega))) rfl ?_)
    | refine x_op rfl (x_val (r_eql (r := true) rfl rfl (decide_eq_true (by omega))) rfl ?_)
    | refine x_op rfl (x_val (r_eql (r := false) rfl rfl (decide_eq_false (by omega))) rfl ?_)
    | refine x_op rfl (x_val (r_neq (r := true) rfl rfl (decide_eq_true (by omega))) rfl ?_)
    | refine x_op rfl (x_val (r_neq (r := false) rfl rfl (decide_eq_false (by omega))) rfl ?_)
    | refine x_op rfl (x_val (by first | exact r_ownN (i := 0) (by assumption) rfl rfl rfl | exact r_ownN (i := 1) (by assumption) rfl rfl rfl | exact r_ownN (i := 2) (by assumption) rfl rfl rfl | exact r_ownN (i := 3) (by assumption) rfl rfl rfl | exact r_ownN (i := 4) (by assumption) rfl rfl rfl | exact r_ownN (i := 5) (by assumption) rfl rfl rfl) rfl ?_)
    | refine x_op rfl (s_store (i := 0) (by assumption) rfl rfl rfl rfl rfl rfl ?_)
    | refine x_op rfl (s_store (i := 1) (by assumption) rfl rfl rfl rfl rfl rfl ?_)
    | refine x_op rfl (s_store (i := 2) (by assumption) rfl rfl rfl rfl rfl rfl ?_)
    | refine x_op rfl (s_store (i := 3) (by assumption) rfl rfl rfl rfl rfl rfl ?_)
    | refine x_op rfl (s_store (i := 4) (by assumption) rfl rfl rfl rfl rfl rfl ?_)
    | refine x_op rfl (s_store (i := 5) (by assumption) rfl rfl rfl rfl rfl rfl ?_)
    | refine x_op rfl (s_box rfl rfl fun b hb => ?_) | refine x_op rfl (s_alloc (by assumption) rfl fun b hb => ?_))
  obtain ⟨b0, hbb⟩ : ∃ x, x = b := ⟨b, rfl⟩; subst hbb
  refine x_cut (σ := Unit) (fun _ => [(1, .pointer (some ⟨b0, 0, none⟩))]) (fun _ => [bl b0 26 #[.bool br, .int .i64 first, .slice A n c]]) (fun _ => (n : Int) ≤ 255 ∧ headOk br first = true) ?_ (fun _ hI => ?_)
  · repeat (first
    | refine x_seq ?_ | refine x_region ?_ | refine x_nil ?_ | refine x_block ?_ | refine x_skip ?_ | refine x_exit rfl ?_ | refine x_true rfl ?_ | refine x_false rfl ?_ | refine x_ret ?_ | refine x_tend ?_
    | refine x_off rfl rfl ?_ | refine x_off0 rfl ?_
    | refine x_op rfl (x_val (r_move rfl) rfl ?_)
    | refine x_op rfl (x_val (r_assign rfl) rfl ?_)
    | refine x_op rfl (x_val (r_extract rfl rfl) rfl ?_)
    | refine x_op rfl (x_val (r_pick_t rfl rfl) rfl ?_)
    | refine x_op rfl (x_val (r_pick_f rfl rfl) rfl ?_)
    | refine x_op rfl (x_val (r_fieldAddr (by assumption) rfl) rfl ?_)
    | refine x_op rfl (x_val (by first | exact r_own_add (i := 0) (by assumption) rfl rfl rfl | exact r_own_add (i := 1) (by assumption) rfl rfl rfl | exact r_own_add (i := 2) (by assumption) rfl rfl rfl | exact r_own_add (i := 3) (by assumption) rfl rfl rfl | exact r_own_add (i := 4) (by assumption) rfl rfl rfl | exact r_own_add (i := 5) (by assumption) rfl rfl rfl | exact r_own (i := 0) (by assumption) rfl rfl rfl | exact r_own (i := 1) (by assumption) rfl rfl rfl | exact r_own (i := 2) (by assumption) rfl rfl rfl | exact r_own (i := 3) (by assumption) rfl rfl rfl | exact r_own (i := 4) (by assumption) rfl rfl rfl | exact r_own (i := 5) (by assumption) rfl rfl rfl) rfl ?_)
    | refine x_op rfl (x_val (r_len_string (by assumption) rfl) rfl ?_)
    | refine x_op rfl (x_val (r_len_slice (by assumption) rfl) rfl ?_)
    | refine x_op rfl (x_val (r_cap_slice (by assumption) rfl) rfl ?_)
    | refine x_op rfl (x_val (r_not rfl rfl) rfl ?_)
    | refine x_op rfl (x_val (r_add rfl rfl ⟨by omega, by omega⟩) rfl ?_)
    | refine x_op rfl (x_val (r_sub rfl rfl ⟨by omega, by omega⟩) rfl ?_)
    | refine x_op rfl (x_val (r_build (by assumption) (by assumption) rfl rfl) rfl ?_)
    | refine x_op rfl (x_val (r_nilCheck rfl) rfl ?_)
    | refine x_op rfl (x_val (r_lss (r := true) rfl rfl (decide_eq_true (by omega))) rfl ?_)
    | refine x_op rfl (x_val (r_lss (r := false) rfl rfl (decide_eq_false (by omega))) rfl ?_)
    | refine x_op rfl (x_val (r_leq (r := true) rfl rfl (decide_eq_true (by omega))) rfl ?_)
    | refine x_op rfl (x_val (r_leq (r := false) rfl rfl (decide_eq_false (by omega))) rfl ?_)
    | refine x_op rfl (x_val (r_gtr (r := true) rfl rfl (decide_eq_true (by omega))) rfl ?_)
    | refine x_op rfl (x_val (r_gtr (r := false) rfl rfl (decide_eq_false (by omega))) rfl ?_)
    | refine x_op rfl (x_val (r_geq (r := true) rfl rfl (decide_eq_true (by omega))) rfl ?_)
    | refine x_op rfl (x_val (r_geq (r := false) rfl rfl (decide_eq_false (by omega))) rfl ?_)
    | refine x_op rfl (x_val (r_eql (r := true) rfl rfl (decide_eq_true (by omega))) rfl ?_)
    | refine x_op rfl (x_val (r_eql (r := false) rfl rfl (decide_eq_false (by omega))) rfl ?_)
    | refine x_op rfl (x_val (r_neq (r := true) rfl rfl (decide_eq_true (by omega))) rfl ?_)
    | refine x_op rfl (x_val (r_neq (r := false) rfl rfl (decide_eq_false (by omega))) rfl ?_)
    | refine x_op rfl (x_val (by first | exact r_ownN (i := 0) (by assumption) rfl rfl rfl | exact r_ownN (i := 1) (by assumption) rfl rfl rfl | exact r_ownN (i := 2) (by assumption) rfl rfl rfl | exact r_ownN (i := 3) (by assumption) rfl rfl rfl | exact r_ownN (i := 4) (by assumption) rfl rfl rfl | exact r_ownN (i := 5) (by assumption) rfl rfl rfl) rfl ?_)
    | refine x_op rfl (s_store (i := 0) (by assumption) rfl rfl rfl rfl rfl rfl ?_)
    | refine x_op rfl (s_store (i := 1) (by assumption) rfl rfl rfl rfl rfl rfl ?_)
    | refine x_op rfl (s_store (i := 2) (by assumption) rfl rfl rfl rfl rfl rfl ?_)
    | refine x_op rfl (s_store (i := 3) (by assumption) rfl rfl rfl rfl rfl rfl ?_)
    | refine x_op rfl (s_store (i := 4) (by assumption) rfl rfl rfl rfl rfl rfl ?_)
    | refine x_op rfl (s_store (i := 5) (by assumption) rfl rfl rfl rfl rfl rfl ?_)
    | refine x_op rfl (s_box rfl rfl fun b hb => ?_) | refine x_op rfl (s_alloc (by assumption) rfl fun b hb => ?_))
    refine x_op rfl (x_val (r_gtr rfl rfl rfl) rfl (x_dec (fun hb => ?_) (fun hb => ?_)))
    · have h : decide ((ps.length : Int) ≤ 255) = false := decide_eq_false (by omega)
      have hR : rightB br first ps = false := by rw [rightB, h]; rfl
      cases br
      all_goals
        repeat (first
    | refine x_seq ?_ | refine x_region ?_ | refine x_nil ?_ | refine x_block ?_ | refine x_skip ?_ | refine x_exit rfl ?_ | refine x_true rfl ?_ | refine x_false rfl ?_ | refine x_ret ?_ | refine x_tend ?_
    | refine x_off rfl rfl ?_ | refine x_off0 rfl ?_
    | refine x_op rfl (x_val (r_move rfl) rfl ?_)
    | refine x_op rfl (x_val (r_assign rfl) rfl ?_)
    | refine x_op rfl (x_val (r_extract rfl rfl) rfl ?_)
    | refine x_op rfl (x_val (r_pick_t rfl rfl) rfl ?_)
    | refine x_op rfl (x_val (r_pick_f rfl rfl) rfl ?_)
    | refine x_op rfl (x_val (r_fieldAddr (by assumption) rfl) rfl ?_)
    | refine x_op rfl (x_val (by first | exact r_own_add (i := 0) (by assumption) rfl rfl rfl | exact r_own_add (i := 1) (by assumption) rfl rfl rfl | exact r_own_add (i := 2) (by assumption) rfl rfl rfl | exact r_own_add (i := 3) (by assumption) rfl rfl rfl | exact r_own_add (i := 4) (by assumption) rfl rfl rfl | exact r_own_add (i := 5) (by assumption) rfl rfl rfl | exact r_own (i := 0) (by assumption) rfl rfl rfl | exact r_own (i := 1) (by assumption) rfl rfl rfl | exact r_own (i := 2) (by assumption) rfl rfl rfl | exact r_own (i := 3) (by assumption) rfl rfl rfl | exact r_own (i := 4) (by assumption) rfl rfl rfl | exact r_own (i := 5) (by assumption) rfl rfl rfl) rfl ?_)
    | refine x_op rfl (x_val (r_len_string (by assumption) rfl) rfl ?_)
    | refine x_op rfl (x_val (r_len_slice (by assumption) rfl) rfl ?_)
    | refine x_op rfl (x_val (r_cap_slice (by assumption) rfl) rfl ?_)
    | refine x_op rfl (x_val (r_not rfl rfl) rfl ?_)
    | refine x_op rfl (x_val (r_add rfl rfl ⟨by omega, by omega⟩) rfl ?_)
    | refine x_op rfl (x_val (r_sub rfl rfl ⟨by omega, by omega⟩) rfl ?_)
    | refine x_op rfl (x_val (r_build (by assumption) (by assumption) rfl rfl) rfl ?_)
    | refine x_op rfl (x_val (r_nilCheck rfl) rfl ?_)
    | refine x_op rfl (x_val (r_lss (r := true) rfl rfl (decide_eq_true (by omega))) rfl ?_)
    | refine x_op rfl (x_val (r_lss (r := false) rfl rfl (decide_eq_false (by omega))) rfl ?_)
    | refine x_op rfl (x_val (r_leq (r := true) rfl rfl (decide_eq_true (by omega))) rfl ?_)
    | refine x_op rfl (x_val (r_leq (r := false) rfl rfl (decide_eq_false (by omega))) rfl ?_)
    | refine x_op rfl (x_val (r_gtr (r := true) rfl rfl (decide_eq_true (by omega))) rfl ?_)
    | refine x_op rfl (x_val (r_gtr (r := false) rfl rfl (decide_eq_false (by omega))) rfl ?_)
    | refine x_op rfl (x_val (r_geq (r := true) rfl rfl (decide_eq_true (by omega))) rfl ?_)
    | refine x_op rfl (x_val (r_geq (r := false) rfl rfl (decide_eq_false (by omega))) rfl ?_)
    | refine x_op rfl (x_val (r_eql (r := true) rfl rfl (decide_eq_true (by omega))) rfl ?_)
    | refine x_op rfl (x_val (r_eql (r := false) rfl rfl (decide_eq_false (by omega))) rfl ?_)
    | refine x_op rfl (x_val (r_neq (r := true) rfl rfl (decide_eq_true (by omega))) rfl ?_)
    | refine x_op rfl (x_val (r_neq (r := false) rfl rfl (decide_eq_false (by omega))) rfl ?_)
    | refine x_op rfl (x_val (by first | exact r_ownN (i := 0) (by assumption) rfl rfl rfl | exact r_ownN (i := 1) (by assumption) rfl rfl rfl | exact r_ownN (i := 2) (by assumption) rfl rfl rfl | exact r_ownN (i := 3) (by assumption) rfl rfl rfl | exact r_ownN (i := 4) (by assumption) rfl rfl rfl | exact r_ownN (i := 5) (by assumption) rfl rfl rfl) rfl ?_)
    | refine x_op rfl (s_store (i := 0) (by assumption) rfl rfl rfl rfl rfl rfl ?_)
    | refine x_op rfl (s_store (i := 1) (by assumption) rfl rfl rfl rfl rfl rfl ?_)
    | refine x_op rfl (s_store (i := 2) (by assumption) rfl rfl rfl rfl rfl rfl ?_)
    | refine x_op rfl (s_store (i := 3) (by assumption) rfl rfl rfl rfl rfl rfl ?_)
    | refine x_op rfl (s_store (i := 4) (by assumption) rfl rfl rfl rfl rfl rfl ?_)
    | refine x_op rfl (s_store (i := 5) (by assumption) rfl rfl rfl rfl rfl rfl ?_)
    | refine x_op rfl (s_box rfl rfl fun b hb => ?_) | refine x_op rfl (s_alloc (by assumption) rfl fun b hb => ?_))
        exact x_ret1 rfl rfl fun w1 hO => ⟨_, rfl, by rw [hR], hO.none_⟩
    · cases br
      · repeat (first
    | refine x_seq ?_ | refine x_region ?_ | refine x_nil ?_ | refine x_block ?_ | refine x_skip ?_ | refine x_exit rfl ?_ | refine x_true rfl ?_ | refine x_false rfl ?_ | refine x_ret ?_ | refine x_tend ?_
    | refine x_off rfl rfl ?_ | refine x_off0 rfl ?_
    | refine x_op rfl (x_val (r_move rfl) rfl ?_)
    | refine x_op rfl (x_val (r_assign rfl) rfl ?_)
    | refine x_op rfl (x_val (r_extract rfl rfl) rfl ?_)
    | refine x_op rfl (x_val (r_pick_t rfl rfl) rfl ?_)
    | refine x_op rfl (x_val (r_pick_f rfl rfl) rfl ?_)
    | refine x_op rfl (x_val (r_fieldAddr (by assumption) rfl) rfl ?_)
    | refine x_op rfl (x_val (by first | exact r_own_add (i := 0) (by assumption) rfl rfl rfl | exact r_own_add (i := 1) (by assumption) rfl rfl rfl | exact r_own_add (i := 2) (by assumption) rfl rfl rfl | exact r_own_add (i := 3) (by assumption) rfl rfl rfl | exact r_own_add (i := 4) (by assumption) rfl rfl rfl | exact r_own_add (i := 5) (by assumption) rfl rfl rfl | exact r_own (i := 0) (by assumption) rfl rfl rfl | exact r_own (i := 1) (by assumption) rfl rfl rfl | exact r_own (i := 2) (by assumption) rfl rfl rfl | exact r_own (i := 3) (by assumption) rfl rfl rfl | exact r_own (i := 4) (by assumption) rfl rfl rfl | exact r_own (i := 5) (by assumption) rfl rfl rfl) rfl ?_)
    | refine x_op rfl (x_val (r_len_string (by assumption) rfl) rfl ?_)
    | refine x_op rfl (x_val (r_len_slice (by assumption) rfl) rfl ?_)
    | refine x_op rfl (x_val (r_cap_slice (by assumption) rfl) rfl ?_)
    | refine x_op rfl (x_val (r_not rfl rfl) rfl ?_)
    | refine x_op rfl (x_val (r_add rfl rfl ⟨by omega, by omega⟩) rfl ?_)
    | refine x_op rfl (x_val (r_sub rfl rfl ⟨by omega, by omega⟩) rfl ?_)
    | refine x_op rfl (x_val (r_build (by assumption) (by assumption) rfl rfl) rfl ?_)
    | refine x_op rfl (x_val (r_nilCheck rfl) rfl ?_)
    | refine x_op rfl (x_val (r_lss (r := true) rfl rfl (decide_eq_true (by omega))) rfl ?_)
    | refine x_op rfl (x_val (r_lss (r := false) rfl rfl (decide_eq_false (by omega))) rfl ?_)
    | refine x_op rfl (x_val (r_leq (r := true) rfl rfl (decide_eq_true (by omega))) rfl ?_)
    | refine x_op rfl (x_val (r_leq (r := false) rfl rfl (decide_eq_false (by omega))) rfl ?_)
    | refine x_op rfl (x_val (r_gtr (r := true) rfl rfl (decide_eq_true (by omega))) rfl ?_)
    | refine x_op rfl (x_val (r_gtr (r := false) rfl rfl (decide_eq_false (by omega))) rfl ?_)
    | refine x_op rfl (x_val (r_geq (r := true) rfl rfl (decide_eq_true (by omega))) rfl ?_)
    | refine x_op rfl (x_val (r_geq (r := false) rfl rfl (decide_eq_false (by omega))) rfl ?_)
    | refine x_op rfl (x_val (r_eql (r := true) rfl rfl (decide_eq_true (by omega))) rfl ?_)
    | refine x_op rfl (x_val (r_eql (r := false) rfl rfl (decide_eq_false (by omega))) rfl ?_)
    | refine x_op rfl (x_val (r_neq (r := true) rfl rfl (decide_eq_true (by omega))) rfl ?_)
    | refine x_op rfl (x_val (r_neq (r := false) rfl rfl (decide_eq_false (by omega))) rfl ?_)
    | refine x_op rfl (x_val (by first | exact r_ownN (i := 0) (by assumption) rfl rfl rfl | exact r_ownN (i := 1) (by assumption) rfl rfl rfl | exact r_ownN (i := 2) (by assumption) rfl rfl rfl | exact r_ownN (i := 3) (by assumption) rfl rfl rfl | exact r_ownN (i := 4) (by assumption) rfl rfl rfl | exact r_ownN (i := 5) (by assumption) rfl rfl rfl) rfl ?_)
    | refine x_op rfl (s_store (i := 0) (by assumption) rfl rfl rfl rfl rfl rfl ?_)
    | refine x_op rfl (s_store (i := 1) (by assumption) rfl rfl rfl rfl rfl rfl ?_)
    | refine x_op rfl (s_store (i := 2) (by assumption) rfl rfl rfl rfl rfl rfl ?_)
    | refine x_op rfl (s_store (i := 3) (by assumption) rfl rfl rfl rfl rfl rfl ?_)
    | refine x_op rfl (s_store (i := 4) (by assumption) rfl rfl rfl rfl rfl rfl ?_)
    | refine x_op rfl (s_store (i := 5) (by assumption) rfl rfl rfl rfl rfl rfl ?_)
    | refine x_op rfl (s_box rfl rfl fun b hb => ?_) | refine x_op rfl (s_alloc (by assumption) rfl fun b hb => ?_))
        refine x_op rfl (x_val (r_neq rfl rfl rfl) rfl (x_dec (fun hb => ?_) (fun hb => ?_)))
        · have h : headOk false first = false := by simpa [headOk] using hb
          have hR : rightB false first ps = false := by rw [rightB, h]; simp
          repeat (first
    | refine x_seq ?_ | refine x_region ?_ | refine x_nil ?_ | refine x_block ?_ | refine x_skip ?_ | refine x_exit rfl ?_ | refine x_true rfl ?_ | refine x_false rfl ?_ | refine x_ret ?_ | refine x_tend ?_
    | refine x_off rfl rfl ?_ | refine x_off0 rfl ?_
    | refine x_op rfl (x_val (r_move rfl) rfl ?_)
    | refine x_op rfl (x_val (r_assign rfl) rfl ?_)
    | refine x_op rfl (x_val (r_extract rfl rfl) rfl ?_)
    | refine x_op rfl (x_val (r_pick_t rfl rfl) rfl ?_)
    | refine x_op rfl (x_val (r_pick_f rfl rfl) rfl ?_)
    | refine x_op rfl (x_val (r_fieldAddr (by assumption) rfl) rfl ?_)
    | refine x_op rfl (x_val (by first | exact r_own_add (i := 0) (by assumption) rfl rfl rfl | exact r_own_add (i := 1) (by assumption) rfl rfl rfl | exact r_own_add (i := 2) (by assumption) rfl rfl rfl | exact r_own_add (i := 3) (by assumption) rfl rfl rfl | exact r_own_add (i := 4) (by assumption) rfl rfl rfl | exact r_own_add (i := 5) (by assumption) rfl rfl rfl | exact r_own (i := 0) (by assumption) rfl rfl rfl | exact r_own (i := 1) (by assumption) rfl rfl rfl | exact r_own (i := 2) (by assumption) rfl rfl rfl | exact r_own (i := 3) (by assumption) rfl rfl rfl | exact r_own (i := 4) (by assumption) rfl rfl rfl | exact r_own (i := 5) (by assumption) rfl rfl rfl) rfl ?_)
    | refine x_op rfl (x_val (r_len_string (by assumption) rfl) rfl ?_)
    | refine x_op rfl (x_val (r_len_slice (by assumption) rfl) rfl ?_)
    | refine x_op rfl (x_val (r_cap_slice (by assumption) rfl) rfl ?_)
    | refine x_op rfl (x_val (r_not rfl rfl) rfl ?_)
    | refine x_op rfl (x_val (r_add rfl rfl ⟨by omega, by omega⟩) rfl ?_)
    | refine x_op rfl (x_val (r_sub rfl rfl ⟨by omega, by omega⟩) rfl ?_)
    | refine x_op rfl (x_val (r_build (by assumption) (by assumption) rfl rfl) rfl ?_)
    | refine x_op rfl (x_val (r_nilCheck rfl) rfl ?_)
    | refine x_op rfl (x_val (r_lss (r := true) rfl rfl (decide_eq_true (by omega))) rfl ?_)
    | refine x_op rfl (x_val (r_lss (r := false) rfl rfl (decide_eq_false (by omega))) rfl ?_)
    | refine x_op rfl (x_val (r_leq (r := true) rfl rfl (decide_eq_true (by omega))) rfl ?_)
    | refine x_op rfl (x_val (r_leq (r := false) rfl rfl (decide_eq_false (by omega))) rfl ?_)
    | refine x_op rfl (x_val (r_gtr (r := true) rfl rfl (decide_eq_true (by omega))) rfl ?_)
    | refine x_op rfl (x_val (r_gtr (r := false) rfl rfl (decide_eq_false (by omega))) rfl ?_)
    | refine x_op rfl (x_val (r_geq (r := true) rfl rfl (decide_eq_true (by omega))) rfl ?_)
    | refine x_op rfl (x_val (r_geq (r := false) rfl rfl (decide_eq_false (by omega))) rfl ?_)
    | refine x_op rfl (x_val (r_eql (r := true) rfl rfl (decide_eq_true (by omega))) rfl ?_)
    | refine x_op rfl (x_val (r_eql (r := false) rfl rfl (decide_eq_false (by omega))) rfl ?_)
    | refine x_op rfl (x_val (r_neq (r := true) rfl rfl (decide_eq_true (by omega))) rfl ?_)
    | refine x_op rfl (x_val (r_neq (r := false) rfl rfl (decide_eq_false (by omega))) rfl ?_)
    | refine x_op rfl (x_val (by first | exact r_ownN (i := 0) (by assumption) rfl rfl rfl | exact r_ownN (i := 1) (by assumption) rfl rfl rfl | exact r_ownN (i := 2) (by assumption) rfl rfl rfl | exact r_ownN (i := 3) (by assumption) rfl rfl rfl | exact r_ownN (i := 4) (by assumption) rfl rfl rfl | exact r_ownN (i := 5) (by assumption) rfl rfl rfl) rfl ?_)
    | refine x_op rfl (s_store (i := 0) (by assumption) rfl rfl rfl rfl rfl rfl ?_)
    | refine x_op rfl (s_store (i := 1) (by assumption) rfl rfl rfl rfl rfl rfl ?_)
    | refine x_op rfl (s_store (i := 2) (by assumption) rfl rfl rfl rfl rfl rfl ?_)
    | refine x_op rfl (s_store (i := 3) (by assumption) rfl rfl rfl rfl rfl rfl ?_)
    | refine x_op rfl (s_store (i := 4) (by assumption) rfl rfl rfl rfl rfl rfl ?_)
    | refine x_op rfl (s_store (i := 5) (by assumption) rfl rfl rfl rfl rfl rfl ?_)
    | refine x_op rfl (s_box rfl rfl fun b hb => ?_) | refine x_op rfl (s_alloc (by assumption) rfl fun b hb => ?_))
          exact x_ret1 rfl rfl fun w1 hO => ⟨_, rfl, by rw [hR], hO.none_⟩
        · repeat (first
    | refine x_seq ?_ | refine x_region ?_ | refine x_nil ?_ | refine x_block ?_ | refine x_skip ?_ | refine x_exit rfl ?_ | refine x_true rfl ?_ | refine x_false rfl ?_ | refine x_ret ?_ | refine x_tend ?_
    | refine x_off rfl rfl ?_ | refine x_off0 rfl ?_
    | refine x_op rfl (x_val (r_move rfl) rfl ?_)
    | refine x_op rfl (x_val (r_assign rfl) rfl ?_)
    | refine x_op rfl (x_val (r_extract rfl rfl) rfl ?_)
    | refine x_op rfl (x_val (r_pick_t rfl rfl) rfl ?_)
    | refine x_op rfl (x_val (r_pick_f rfl rfl) rfl ?_)
    | refine x_op rfl (x_val (r_fieldAddr (by assumption) rfl) rfl ?_)
    | refine x_op rfl (x_val (by first | exact r_own_add (i := 0) (by assumption) rfl rfl rfl | exact r_own_add (i := 1) (by assumption) rfl rfl rfl | exact r_own_add (i := 2) (by assumption) rfl rfl rfl | exact r_own_add (i := 3) (by assumption) rfl rfl rfl | exact r_own_add (i := 4) (by assumption) rfl rfl rfl | exact r_own_add (i := 5) (by assumption) rfl rfl rfl | exact r_own (i := 0) (by assumption) rfl rfl rfl | exact r_own (i := 1) (by assumption) rfl rfl rfl | exact r_own (i := 2) (by assumption) rfl rfl rfl | exact r_own (i := 3) (by assumption) rfl rfl rfl | exact r_own (i := 4) (by assumption) rfl rfl rfl | exact r_own (i := 5) (by assumption) rfl rfl rfl) rfl ?_)
    | refine x_op rfl (x_val (r_len_string (by assumption) rfl) rfl ?_)
    | refine x_op rfl (x_val (r_len_slice (by assumption) rfl) rfl ?_)
    | refine x_op rfl (x_val (r_cap_slice (by assumption) rfl) rfl ?_)
    | refine x_op rfl (x_val (r_not rfl rfl) rfl ?_)
    | refine x_op rfl (x_val (r_add rfl rfl ⟨by omega, by omega⟩) rfl ?_)
    | refine x_op rfl (x_val (r_sub rfl rfl ⟨by omega, by omega⟩) rfl ?_)
    | refine x_op rfl (x_val (r_build (by assumption) (by assumption) rfl rfl) rfl ?_)
    | refine x_op rfl (x_val (r_nilCheck rfl) rfl ?_)
    | refine x_op rfl (x_val (r_lss (r := true) rfl rfl (decide_eq_true (by omega))) rfl ?_)
    | refine x_op rfl (x_val (r_lss (r := false) rfl rfl (decide_eq_false (by omega))) rfl ?_)
    | refine x_op rfl (x_val (r_leq (r := true) rfl rfl (decide_eq_true (by omega))) rfl ?_)
    | refine x_op rfl (x_val (r_leq (r := false) rfl rfl (decide_eq_false (by omega))) rfl ?_)
    | refine x_op rfl (x_val (r_gtr (r := true) rfl rfl (decide_eq_true (by omega))) rfl ?_)
    | refine x_op rfl (x_val (r_gtr (r := false) rfl rfl (decide_eq_false (by omega))) rfl ?_)
    | refine x_op rfl (x_val (r_geq (r := true) rfl rfl (decide_eq_true (by omega))) rfl ?_)
    | refine x_op rfl (x_val (r_geq (r := false) rfl rfl (decide_eq_false (by omega))) rfl ?_)
    | refine x_op rfl (x_val (r_eql (r := true) rfl rfl (decide_eq_true (by omega))) rfl ?_)
    | refine x_op rfl (x_val (r_eql (r := false) rfl rfl (decide_eq_false (by omega))) rfl ?_)
    | refine x_op rfl (x_val (r_neq (r := true) rfl rfl (decide_eq_true (by omega))) rfl ?_)
    | refine x_op rfl (x_val (r_neq (r := false) rfl rfl (decide_eq_false (by omega))) rfl ?_)
    | refine x_op rfl (x_val (by first | exact r_ownN (i := 0) (by assumption) rfl rfl rfl | exact r_ownN (i := 1) (by assumption) rfl rfl rfl | exact r_ownN (i := 2) (by assumption) rfl rfl rfl | exact r_ownN (i := 3) (by assumption) rfl rfl rfl | exact r_ownN (i := 4) (by assumption) rfl rfl rfl | exact r_ownN (i := 5) (by assumption) rfl rfl rfl) rfl ?_)
    | refine x_op rfl (s_store (i := 0) (by assumption) rfl rfl rfl rfl rfl rfl ?_)
    | refine x_op rfl (s_store (i := 1) (by assumption) rfl rfl rfl rfl rfl rfl ?_)
    | refine x_op rfl (s_store (i := 2) (by assumption) rfl rfl rfl rfl rfl rfl ?_)
    | refine x_op rfl (s_store (i := 3) (by assumption) rfl rfl rfl rfl rfl rfl ?_)
    | refine x_op rfl (s_store (i := 4) (by assumption) rfl rfl rfl rfl rfl rfl ?_)
    | refine x_op rfl (s_store (i := 5) (by assumption) rfl rfl rfl rfl rfl rfl ?_)
    | refine x_op rfl (s_box rfl rfl fun b hb => ?_) | refine x_op rfl (s_alloc (by assumption) rfl fun b hb => ?_))
          exact x_there () ⟨rfl, trivial⟩ (fun _ h => h) ⟨by omega, by simpa [headOk] using hb⟩
      · repeat (first
    | refine x_seq ?_ | refine x_region ?_ | refine x_nil ?_ | refine x_block ?_ | refine x_skip ?_ | refine x_exit rfl ?_ | refine x_true rfl ?_ | refine x_false rfl ?_ | refine x_ret ?_ | refine x_tend ?_
    | refine x_off rfl rfl ?_ | refine x_off0 rfl ?_
    | refine x_op rfl (x_val (r_move rfl) rfl ?_)
    | refine x_op rfl (x_val (r_assign rfl) rfl ?_)
    | refine x_op rfl (x_val (r_extract rfl rfl) rfl ?_)
    | refine x_op rfl (x_val (r_pick_t rfl rfl) rfl ?_)
    | refine x_op rfl (x_val (r_pick_f rfl rfl) rfl ?_)
    | refine x_op rfl (x_val (r_fieldAddr (by assumption) rfl) rfl ?_)
    | refine x_op rfl (x_val (by first | exact r_own_add (i := 0) (by assumption) rfl rfl rfl | exact r_own_add (i := 1) (by assumption) rfl rfl rfl | exact r_own_add (i := 2) (by assumption) rfl rfl rfl | exact r_own_add (i := 3) (by assumption) rfl rfl rfl | exact r_own_add (i := 4) (by assumption) rfl rfl rfl | exact r_own_add (i := 5) (by assumption) rfl rfl rfl | exact r_own (i := 0) (by assumption) rfl rfl rfl | exact r_own (i := 1) (by assumption) rfl rfl rfl | exact r_own (i := 2) (by assumption) rfl rfl rfl | exact r_own (i := 3) (by assumption) rfl rfl rfl | exact r_own (i := 4) (by assumption) rfl rfl rfl | exact r_own (i := 5) (by assumption) rfl rfl rfl) rfl ?_)
    | refine x_op rfl (x_val (r_len_string (by assumption) rfl) rfl ?_)
    | refine x_op rfl (x_val (r_len_slice (by assumption) rfl) rfl ?_)
    | refine x_op rfl (x_val (r_cap_slice (by assumption) rfl) rfl ?_)
    | refine x_op rfl (x_val (r_not rfl rfl) rfl ?_)
    | refine x_op rfl (x_val (r_add rfl rfl ⟨by omega, by omega⟩) rfl ?_)
    | refine x_op rfl (x_val (r_sub rfl rfl ⟨by omega, by omega⟩) rfl ?_)
    | refine x_op rfl (x_val (r_build (by assumption) (by assumption) rfl rfl) rfl ?_)
    | refine x_op rfl (x_val (r_nilCheck rfl) rfl ?_)
    | refine x_op rfl (x_val (r_lss (r := true) rfl rfl (decide_eq_true (by omega))) rfl ?_)
    | refine x_op rfl (x_val (r_lss (r := false) rfl rfl (decide_eq_false (by omega))) rfl ?_)
    | refine x_op rfl (x_val (r_leq (r := true) rfl rfl (decide_eq_true (by omega))) rfl ?_)
    | refine x_op rfl (x_val (r_leq (r := false) rfl rfl (decide_eq_false (by omega))) rfl ?_)
    | refine x_op rfl (x_val (r_gtr (r := true) rfl rfl (decide_eq_true (by omega))) rfl ?_)
    | refine x_op rfl (x_val (r_gtr (r := false) rfl rfl (decide_eq_false (by omega))) rfl ?_)
    | refine x_op rfl (x_val (r_geq (r := true) rfl rfl (decide_eq_true (by omega))) rfl ?_)
    | refine x_op rfl (x_val (r_geq (r := false) rfl rfl (decide_eq_false (by omega))) rfl ?_)
    | refine x_op rfl (x_val (r_eql (r := true) rfl rfl (decide_eq_true (by omega))) rfl ?_)
    | refine x_op rfl (x_val (r_eql (r := false) rfl rfl (decide_eq_false (by omega))) rfl ?_)
    | refine x_op rfl (x_val (r_neq (r := true) rfl rfl (decide_eq_true (by omega))) rfl ?_)
    | refine x_op rfl (x_val (r_neq (r := false) rfl rfl (decide_eq_false (by omega))) rfl ?_)
    | refine x_op rfl (x_val (by first | exact r_ownN (i := 0) (by assumption) rfl rfl rfl | exact r_ownN (i := 1) (by assumption) rfl rfl rfl | exact r_ownN (i := 2) (by assumption) rfl rfl rfl | exact r_ownN (i := 3) (by assumption) rfl rfl rfl | exact r_ownN (i := 4) (by assumption) rfl rfl rfl | exact r_ownN (i := 5) (by assumption) rfl rfl rfl) rfl ?_)
    | refine x_op rfl (s_store (i := 0) (by assumption) rfl rfl rfl rfl rfl rfl ?_)
    | refine x_op rfl (s_store (i := 1) (by assumption) rfl rfl rfl rfl rfl rfl ?_)
    | refine x_op rfl (s_store (i := 2) (by assumption) rfl rfl rfl rfl rfl rfl ?_)
    | refine x_op rfl (s_store (i := 3) (by assumption) rfl rfl rfl rfl rfl rfl ?_)
    | refine x_op rfl (s_store (i := 4) (by assumption) rfl rfl rfl rfl rfl rfl ?_)
    | refine x_op rfl (s_store (i := 5) (by assumption) rfl rfl rfl rfl rfl rfl ?_)
    | refine x_op rfl (s_box rfl rfl fun b hb => ?_) | refine x_op rfl (s_alloc (by assumption) rfl fun b hb => ?_))
        refine x_op rfl (x_val (r_lss rfl rfl rfl) rfl (x_dec (fun hb => ?_) (fun hb => ?_)))
        · have h : headOk true first = false := by simp [headOk]; omega
          have hR : rightB true first ps = false := by rw [rightB, h]; simp
          repeat (first
    | refine x_seq ?_ | refine x_region ?_ | refine x_nil ?_ | refine x_block ?_ | refine x_skip ?_ | refine x_exit rfl ?_ | refine x_true rfl ?_ | refine x_false rfl ?_ | refine x_ret ?_ | refine x_tend ?_
    | refine x_off rfl rfl ?_ | refine x_off0 rfl ?_
    | refine x_op rfl (x_val (r_move rfl) rfl ?_)
    | refine x_op rfl (x_val (r_assign rfl) rfl ?_)
    | refine x_op rfl (x_val (r_extract rfl rfl) rfl ?_)
    | refine x_op rfl (x_val (r_pick_t rfl rfl) rfl ?_)
    | refine x_op rfl (x_val (r_pick_f rfl rfl) rfl ?_)
    | refine x_op rfl (x_val (r_fieldAddr (by assumption) rfl) rfl ?_)
    | refine x_op rfl (x_val (by first | exact r_own_add (i := 0) (by assumption) rfl rfl rfl | exact r_own_add (i := 1) (by assumption) rfl rfl rfl | exact r_own_add (i := 2) (by assumption) rfl rfl rfl | exact r_own_add (i := 3) (by assumption) rfl rfl rfl | exact r_own_add (i := 4) (by assumption) rfl rfl rfl | exact r_own_add (i := 5) (by assumption) rfl rfl rfl | exact r_own (i := 0) (by assumption) rfl rfl rfl | exact r_own (i := 1) (by assumption) rfl rfl rfl | exact r_own (i := 2) (by assumption) rfl rfl rfl | exact r_own (i := 3) (by assumption) rfl rfl rfl | exact r_own (i := 4) (by assumption) rfl rfl rfl | exact r_own (i := 5) (by assumption) rfl rfl rfl) rfl ?_)
    | refine x_op rfl (x_val (r_len_string (by assumption) rfl) rfl ?_)
    | refine x_op rfl (x_val (r_len_slice (by assumption) rfl) rfl ?_)
    | refine x_op rfl (x_val (r_cap_slice (by assumption) rfl) rfl ?_)
    | refine x_op rfl (x_val (r_not rfl rfl) rfl ?_)
    | refine x_op rfl (x_val (r_add rfl rfl ⟨by omega, by omega⟩) rfl ?_)
    | refine x_op rfl (x_val (r_sub rfl rfl ⟨by omega, by omega⟩) rfl ?_)
    | refine x_op rfl (x_val (r_build (by assumption) (by assumption) rfl rfl) rfl ?_)
    | refine x_op rfl (x_val (r_nilCheck rfl) rfl ?_)
    | refine x_op rfl (x_val (r_lss (r := true) rfl rfl (decide_eq_true (by omega))) rfl ?_)
    | refine x_op rfl (x_val (r_lss (r := false) rfl rfl (decide_eq_false (by omega))) rfl ?_)
    | refine x_op rfl (x_val (r_leq (r := true) rfl rfl (decide_eq_true (by omega))) rfl ?_)
    | refine x_op rfl (x_val (r_leq (r := false) rfl rfl (decide_eq_false (by omega))) rfl ?_)
    | refine x_op rfl (x_val (r_gtr (r := true) rfl rfl (decide_eq_true (by omega))) rfl ?_)
    | refine x_op rfl (x_val (r_gtr (r := false) rfl rfl (decide_eq_false (by omega))) rfl ?_)
    | refine x_op rfl (x_val (r_geq (r := true) rfl rfl (decide_eq_true (by omega))) rfl ?_)
    | refine x_op rfl (x_val (r_geq (r := false) rfl rfl (decide_eq_false (by omega))) rfl ?_)
    | refine x_op rfl (x_val (r_eql (r := true) rfl rfl (decide_eq_true (by omega))) rfl ?_)
    | refine x_op rfl (x_val (r_eql (r := false) rfl rfl (decide_eq_false (by omega))) rfl ?_)
    | refine x_op rfl (x_val (r_neq (r := true) rfl rfl (decide_eq_true (by omega))) rfl ?_)
    | refine x_op rfl (x_val (r_neq (r := false) rfl rfl (decide_eq_false (by omega))) rfl ?_)
    | refine x_op rfl (x_val (by first | exact r_ownN (i := 0) (by assumption) rfl rfl rfl | exact r_ownN (i := 1) (by assumption) rfl rfl rfl | exact r_ownN (i := 2) (by assumption) rfl rfl rfl | exact r_ownN (i := 3) (by assumption) rfl rfl rfl | exact r_ownN (i := 4) (by assumption) rfl rfl rfl | exact r_ownN (i := 5) (by assumption) rfl rfl rfl) rfl ?_)
    | refine x_op rfl (s_store (i := 0) (by assumption) rfl rfl rfl rfl rfl rfl ?_)
    | refine x_op rfl (s_store (i := 1) (by assumption) rfl rfl rfl rfl rfl rfl ?_)
    | refine x_op rfl (s_store (i := 2) (by assumption) rfl rfl rfl rfl rfl rfl ?_)
    | refine x_op rfl (s_store (i := 3) (by assumption) rfl rfl rfl rfl rfl rfl ?_)
    | refine x_op rfl (s_store (i := 4) (by assumption) rfl rfl rfl rfl rfl rfl ?_)
    | refine x_op rfl (s_store (i := 5) (by assumption) rfl rfl rfl rfl rfl rfl ?_)
    | refine x_op rfl (s_box rfl rfl fun b hb => ?_) | refine x_op rfl (s_alloc (by assumption) rfl fun b hb => ?_))
          exact x_ret1 rfl rfl fun w1 hO => ⟨_, rfl, by rw [hR], hO.none_⟩
        · repeat (first
    | refine x_seq ?_ | refine x_region ?_ | refine x_nil ?_ | refine x_block ?_ | refine x_skip ?_ | refine x_exit rfl ?_ | refine x_true rfl ?_ | refine x_false rfl ?_ | refine x_ret ?_ | refine x_tend ?_
    | refine x_off rfl rfl ?_ | refine x_off0 rfl ?_
    | refine x_op rfl (x_val (r_move rfl) rfl ?_)
    | refine x_op rfl (x_val (r_assign rfl) rfl ?_)
    | refine x_op rfl (x_val (r_extract rfl rfl) rfl ?_)
    | refine x_op rfl (x_val (r_pick_t rfl rfl) rfl ?_)
    | refine x_op rfl (x_val (r_pick_f rfl rfl) rfl ?_)
    | refine x_op rfl (x_val (r_fieldAddr (by assumption) rfl) rfl ?_)
    | refine x_op rfl (x_val (by first | exact r_own_add (i := 0) (by assumption) rfl rfl rfl | exact r_own_add (i := 1) (by assumption) rfl rfl rfl | exact r_own_add (i := 2) (by assumption) rfl rfl rfl | exact r_own_add (i := 3) (by assumption) rfl rfl rfl | exact r_own_add (i := 4) (by assumption) rfl rfl rfl | exact r_own_add (i := 5) (by assumption) rfl rfl rfl | exact r_own (i := 0) (by assumption) rfl rfl rfl | exact r_own (i := 1) (by assumption) rfl rfl rfl | exact r_own (i := 2) (by assumption) rfl rfl rfl | exact r_own (i := 3) (by assumption) rfl rfl rfl | exact r_own (i := 4) (by assumption) rfl rfl rfl | exact r_own (i := 5) (by assumption) rfl rfl rfl) rfl ?_)
    | refine x_op rfl (x_val (r_len_string (by assumption) rfl) rfl ?_)
    | refine x_op rfl (x_val (r_len_slice (by assumption) rfl) rfl ?_)
    | refine x_op rfl (x_val (r_cap_slice (by assumption) rfl) rfl ?_)
    | refine x_op rfl (x_val (r_not rfl rfl) rfl ?_)
    | refine x_op rfl (x_val (r_add rfl rfl ⟨by omega, by omega⟩) rfl ?_)
    | refine x_op rfl (x_val (r_sub rfl rfl ⟨by omega, by omega⟩) rfl ?_)
    | refine x_op rfl (x_val (r_build (by assumption) (by assumption) rfl rfl) rfl ?_)
    | refine x_op rfl (x_val (r_nilCheck rfl) rfl ?_)
    | refine x_op rfl (x_val (r_lss (r := true) rfl rfl (decide_eq_true (by omega))) rfl ?_)
    | refine x_op rfl (x_val (r_lss (r := false) rfl rfl (decide_eq_false (by omega))) rfl ?_)
    | refine x_op rfl (x_val (r_leq (r := true) rfl rfl (decide_eq_true (by omega))) rfl ?_)
    | refine x_op rfl (x_val (r_leq (r := false) rfl rfl (decide_eq_false (by omega))) rfl ?_)
    | refine x_op rfl (x_val (r_gtr (r := true) rfl rfl (decide_eq_true (by omega))) rfl ?_)
    | refine x_op rfl (x_val (r_gtr (r := false) rfl rfl (decide_eq_false (by omega))) rfl ?_)
    | refine x_op rfl (x_val (r_geq (r := true) rfl rfl (decide_eq_true (by omega))) rfl ?_)
    | refine x_op rfl (x_val (r_geq (r := false) rfl rfl (decide_eq_false (by omega))) rfl ?_)
    | refine x_op rfl (x_val (r_eql (r := true) rfl rfl (decide_eq_true (by omega))) rfl ?_)
    | refine x_op rfl (x_val (r_eql (r := false) rfl rfl (decide_eq_false (by omega))) rfl ?_)
    | refine x_op rfl (x_val (r_neq (r := true) rfl rfl (decide_eq_true (by omega))) rfl ?_)
    | refine x_op rfl (x_val (r_neq (r := false) rfl rfl (decide_eq_false (by omega))) rfl ?_)
    | refine x_op rfl (x_val (by first | exact r_ownN (i := 0) (by assumption) rfl rfl rfl | exact r_ownN (i := 1) (by assumption) rfl rfl rfl | exact r_ownN (i := 2) (by assumption) rfl rfl rfl | exact r_ownN (i := 3) (by assumption) rfl rfl rfl | exact r_ownN (i := 4) (by assumption) rfl rfl rfl | exact r_ownN (i := 5) (by assumption) rfl rfl rfl) rfl ?_)
    | refine x_op rfl (s_store (i := 0) (by assumption) rfl rfl rfl rfl rfl rfl ?_)
    | refine x_op rfl (s_store (i := 1) (by assumption) rfl rfl rfl rfl rfl rfl ?_)
    | refine x_op rfl (s_store (i := 2) (by assumption) rfl rfl rfl rfl rfl rfl ?_)
    | refine x_op rfl (s_store (i := 3) (by assumption) rfl rfl rfl rfl rfl rfl ?_)
    | refine x_op rfl (s_store (i := 4) (by assumption) rfl rfl rfl rfl rfl rfl ?_)
    | refine x_op rfl (s_store (i := 5) (by assumption) rfl rfl rfl rfl rfl rfl ?_)
    | refine x_op rfl (s_box rfl rfl fun b hb => ?_) | refine x_op rfl (s_alloc (by assumption) rfl fun b hb => ?_))
          refine x_op rfl (x_val (r_geq rfl rfl rfl) rfl (x_dec (fun hb => ?_) (fun hb => ?_)))
          · have h : headOk true first = false := by simp [headOk]; omega
            have hR : rightB true first ps = false := by rw [rightB, h]; simp
            repeat (first
    | refine x_seq ?_ | refine x_region ?_ | refine x_nil ?_ | refine x_block ?_ | refine x_skip ?_ | refine x_exit rfl ?_ | refine x_true rfl ?_ | refine x_false rfl ?_ | refine x_ret ?_ | refine x_tend ?_
    | refine x_off rfl rfl ?_ | refine x_off0 rfl ?_
    | refine x_op rfl (x_val (r_move rfl) rfl ?_)
    | refine x_op rfl (x_val (r_assign rfl) rfl ?_)
    | refine x_op rfl (x_val (r_extract rfl rfl) rfl ?_)
    | refine x_op rfl (x_val (r_pick_t rfl rfl) rfl ?_)
    | refine x_op rfl (x_val (r_pick_f rfl rfl) rfl ?_)
    | refine x_op rfl (x_val (r_fieldAddr (by assumption) rfl) rfl ?_)
    | refine x_op rfl (x_val (by first | exact r_own_add (i := 0) (by assumption) rfl rfl rfl | exact r_own_add (i := 1) (by assumption) rfl rfl rfl | exact r_own_add (i := 2) (by assumption) rfl rfl rfl | exact r_own_add (i := 3) (by assumption) rfl rfl rfl | exact r_own_add (i := 4) (by assumption) rfl rfl rfl | exact r_own_add (i := 5) (by assumption) rfl rfl rfl | exact r_own (i := 0) (by assumption) rfl rfl rfl | exact r_own (i := 1) (by assumption) rfl rfl rfl | exact r_own (i := 2) (by assumption) rfl rfl rfl | exact r_own (i := 3) (by assumption) rfl rfl rfl | exact r_own (i := 4) (by assumption) rfl rfl rfl | exact r_own (i := 5) (by assumption) rfl rfl rfl) rfl ?_)
    | refine x_op rfl (x_val (r_len_string (by assumption) rfl) rfl ?_)
    | refine x_op rfl (x_val (r_len_slice (by assumption) rfl) rfl ?_)
    | refine x_op rfl (x_val (r_cap_slice (by assumption) rfl) rfl ?_)
    | refine x_op rfl (x_val (r_not rfl rfl) rfl ?_)
    | refine x_op rfl (x_val (r_add rfl rfl ⟨by omega, by omega⟩) rfl ?_)
    | refine x_op rfl (x_val (r_sub rfl rfl ⟨by omega, by omega⟩) rfl ?_)
    | refine x_op rfl (x_val (r_build (by assumption) (by assumption) rfl rfl) rfl ?_)
    | refine x_op rfl (x_val (r_nilCheck rfl) rfl ?_)
    | refine x_op rfl (x_val (r_lss (r := true) rfl rfl (decide_eq_true (by omega))) rfl ?_)
    | refine x_op rfl (x_val (r_lss (r := false) rfl rfl (decide_eq_false (by omega))) rfl ?_)
    | refine x_op rfl (x_val (r_leq (r := true) rfl rfl (decide_eq_true (by omega))) rfl ?_)
    | refine x_op rfl (x_val (r_leq (r := false) rfl rfl (decide_eq_false (by omega))) rfl ?_)
    | refine x_op rfl (x_val (r_gtr (r := true) rfl rfl (decide_eq_true (by omega))) rfl ?_)
    | refine x_op rfl (x_val (r_gtr (r := false) rfl rfl (decide_eq_false (by omega))) rfl ?_)
    | refine x_op rfl (x_val (r_geq (r := true) rfl rfl (decide_eq_true (by omega))) rfl ?_)
    | refine x_op rfl (x_val (r_geq (r := false) rfl rfl (decide_eq_false (by omega))) rfl ?_)
    | refine x_op rfl (x_val (r_eql (r := true) rfl rfl (decide_eq_true (by omega))) rfl ?_)
    | refine x_op rfl (x_val (r_eql (r := false) rfl rfl (decide_eq_false (by omega))) rfl ?_)
    | refine x_op rfl (x_val (r_neq (r := true) rfl rfl (decide_eq_true (by omega))) rfl ?_)
    | refine x_op rfl (x_val (r_neq (r := false) rfl rfl (decide_eq_false (by omega))) rfl ?_)
    | refine x_op rfl (x_val (by first | exact r_ownN (i := 0) (by assumption) rfl rfl rfl | exact r_ownN (i := 1) (by assumption) rfl rfl rfl | exact r_ownN (i := 2) (by assumption) rfl rfl rfl | exact r_ownN (i := 3) (by assumption) rfl rfl rfl | exact r_ownN (i := 4) (by assumption) rfl rfl rfl | exact r_ownN (i := 5) (by assumption) rfl rfl rfl) rfl ?_)
    | refine x_op rfl (s_store (i := 0) (by assumption) rfl rfl rfl rfl rfl rfl ?_)
    | refine x_op rfl (s_store (i := 1) (by assumption) rfl rfl rfl rfl rfl rfl ?_)
    | refine x_op rfl (s_store (i := 2) (by assumption) rfl rfl rfl rfl rfl rfl ?_)
    | refine x_op rfl (s_store (i := 3) (by assumption) rfl rfl rfl rfl rfl rfl ?_)
    | refine x_op rfl (s_store (i := 4) (by assumption) rfl rfl rfl rfl rfl rfl ?_)
    | refine x_op rfl (s_store (i := 5) (by assumption) rfl rfl rfl rfl rfl rfl ?_)
    | refine x_op rfl (s_box rfl rfl fun b hb => ?_) | refine x_op rfl (s_alloc (by assumption) rfl fun b hb => ?_))
            exact x_ret1 rfl rfl fun w1 hO => ⟨_, rfl, by rw [hR], hO.none_⟩
          · repeat (first
    | refine x_seq ?_ | refine x_region ?_ | refine x_nil ?_ | refine x_block ?_ | refine x_skip ?_ | refine x_exit rfl ?_ | refine x_true rfl ?_ | refine x_false rfl ?_ | refine x_ret ?_ | refine x_tend ?_
    | refine x_off rfl rfl ?_ | refine x_off0 rfl ?_
    | refine x_op rfl (x_val (r_move rfl) rfl ?_)
    | refine x_op rfl (x_val (r_assign rfl) rfl ?_)
    | refine x_op rfl (x_val (r_extract rfl rfl) rfl ?_)
    | refine x_op rfl (x_val (r_pick_t rfl rfl) rfl ?_)
    | refine x_op rfl (x_val (r_pick_f rfl rfl) rfl ?_)
    | refine x_op rfl (x_val (r_fieldAddr (by assumption) rfl) rfl ?_)
    | refine x_op rfl (x_val (by first | exact r_own_add (i := 0) (by assumption) rfl rfl rfl | exact r_own_add (i := 1) (by assumption) rfl rfl rfl | exact r_own_add (i := 2) (by assumption) rfl rfl rfl | exact r_own_add (i := 3) (by assumption) rfl rfl rfl | exact r_own_add (i := 4) (by assumption) rfl rfl rfl | exact r_own_add (i := 5) (by assumption) rfl rfl rfl | exact r_own (i := 0) (by assumption) rfl rfl rfl | exact r_own (i := 1) (by assumption) rfl rfl rfl | exact r_own (i := 2) (by assumption) rfl rfl rfl | exact r_own (i := 3) (by assumption) rfl rfl rfl | exact r_own (i := 4) (by assumption) rfl rfl rfl | exact r_own (i := 5) (by assumption) rfl rfl rfl) rfl ?_)
    | refine x_op rfl (x_val (r_len_string (by assumption) rfl) rfl ?_)
    | refine x_op rfl (x_val (r_len_slice (by assumption) rfl) rfl ?_)
    | refine x_op rfl (x_val (r_cap_slice (by assumption) rfl) rfl ?_)
    | refine x_op rfl (x_val (r_not rfl rfl) rfl ?_)
    | refine x_op rfl (x_val (r_add rfl rfl ⟨by omega, by omega⟩) rfl ?_)
    | refine x_op rfl (x_val (r_sub rfl rfl ⟨by omega, by omega⟩) rfl ?_)
    | refine x_op rfl (x_val (r_build (by assumption) (by assumption) rfl rfl) rfl ?_)
    | refine x_op rfl (x_val (r_nilCheck rfl) rfl ?_)
    | refine x_op rfl (x_val (r_lss (r := true) rfl rfl (decide_eq_true (by omega))) rfl ?_)
    | refine x_op rfl (x_val (r_lss (r := false) rfl rfl (decide_eq_false (by omega))) rfl ?_)
    | refine x_op rfl (x_val (r_leq (r := true) rfl rfl (decide_eq_true (by omega))) rfl ?_)
    | refine x_op rfl (x_val (r_leq (r := false) rfl rfl (decide_eq_false (by omega))) rfl ?_)
    | refine x_op rfl (x_val (r_gtr (r := true) rfl rfl (decide_eq_true (by omega))) rfl ?_)
    | refine x_op rfl (x_val (r_gtr (r := false) rfl rfl (decide_eq_false (by omega))) rfl ?_)
    | refine x_op rfl (x_val (r_geq (r := true) rfl rfl (decide_eq_true (by omega))) rfl ?_)
    | refine x_op rfl (x_val (r_geq (r := false) rfl rfl (decide_eq_false (by omega))) rfl ?_)
    | refine x_op rfl (x_val (r_eql (r := true) rfl rfl (decide_eq_true (by omega))) rfl ?_)
    | refine x_op rfl (x_val (r_eql (r := false) rfl rfl (decide_eq_false (by omega))) rfl ?_)
    | refine x_op rfl (x_val (r_neq (r := true) rfl rfl (decide_eq_true (by omega))) rfl ?_)
    | refine x_op rfl (x_val (r_neq (r := false) rfl rfl (decide_eq_false (by omega))) rfl ?_)
    | refine x_op rfl (x_val (by first | exact r_ownN (i := 0) (by assumption) rfl rfl rfl | exact r_ownN (i := 1) (by assumption) rfl rfl rfl | exact r_ownN (i := 2) (by assumption) rfl rfl rfl | exact r_ownN (i := 3) (by assumption) rfl rfl rfl | exact r_ownN (i := 4) (by assumption) rfl rfl rfl | exact r_ownN (i := 5) (by assumption) rfl rfl rfl) rfl ?_)
    | refine x_op rfl (s_store (i := 0) (by assumption) rfl rfl rfl rfl rfl rfl ?_)
    | refine x_op rfl (s_store (i := 1) (by assumption) rfl rfl rfl rfl rfl rfl ?_)
    | refine x_op rfl (s_store (i := 2) (by assumption) rfl rfl rfl rfl rfl rfl ?_)
    | refine x_op rfl (s_store (i := 3) (by assumption) rfl rfl rfl rfl rfl rfl ?_)
    | refine x_op rfl (s_store (i := 4) (by assumption) rfl rfl rfl rfl rfl rfl ?_)
    | refine x_op rfl (s_store (i := 5) (by assumption) rfl rfl rfl rfl rfl rfl ?_)
    | refine x_op rfl (s_box rfl rfl fun b hb => ?_) | refine x_op rfl (s_alloc (by assumption) rfl fun b hb => ?_))
            exact x_there () ⟨rfl, trivial⟩ (fun _ h => h) ⟨by omega, by simp [headOk]; omega⟩
  · obtain ⟨h255, hhead⟩ := hI
    repeat (first
    | refine x_seq ?_ | refine x_region ?_ | refine x_nil ?_ | refine x_block ?_ | refine x_skip ?_ | refine x_exit rfl ?_ | refine x_true rfl ?_ | refine x_false rfl ?_ | refine x_ret ?_ | refine x_tend ?_
    | refine x_off rfl rfl ?_ | refine x_off0 rfl ?_
    | refine x_op rfl (x_val (r_move rfl) rfl ?_)
    | refine x_op rfl (x_val (r_assign rfl) rfl ?_)
    | refine x_op rfl (x_val (r_extract rfl rfl) rfl ?_)
    | refine x_op rfl (x_val (r_pick_t rfl rfl) rfl ?_)
    | refine x_op rfl (x_val (r_pick_f rfl rfl) rfl ?_)
    | refine x_op rfl (x_val (r_fieldAddr (by assumption) rfl) rfl ?_)
    | refine x_op rfl (x_val (by first | exact r_own_add (i := 0) (by assumption) rfl rfl rfl | exact r_own_add (i := 1) (by assumption) rfl rfl rfl | exact r_own_add (i := 2) (by assumption) rfl rfl rfl | exact r_own_add (i := 3) (by assumption) rfl rfl rfl | exact r_own_add (i := 4) (by assumption) rfl rfl rfl | exact r_own_add (i := 5) (by assumption) rfl rfl rfl | exact r_own (i := 0) (by assumption) rfl rfl rfl | exact r_own (i := 1) (by assumption) rfl rfl rfl | exact r_own (i := 2) (by assumption) rfl rfl rfl | exact r_own (i := 3) (by assumption) rfl rfl rfl | exact r_own (i := 4) (by assumption) rfl rfl rfl | exact r_own (i := 5) (by assumption) rfl rfl rfl) rfl ?_)
    | refine x_op rfl (x_val (r_len_string (by assumption) rfl) rfl ?_)
    | refine x_op rfl (x_val (r_len_slice (by assumption) rfl) rfl ?_)
    | refine x_op rfl (x_val (r_cap_slice (by assumption) rfl) rfl ?_)
    | refine x_op rfl (x_val (r_not rfl rfl) rfl ?_)
    | refine x_op rfl (x_val (r_add rfl rfl ⟨by omega, by omega⟩) rfl ?_)
    | refine x_op rfl (x_val (r_sub rfl rfl ⟨by omega, by omega⟩) rfl ?_)
    | refine x_op rfl (x_val (r_build (by assumption) (by assumption) rfl rfl) rfl ?_)
    | refine x_op rfl (x_val (r_nilCheck rfl) rfl ?_)
    | refine x_op rfl (x_val (r_lss (r := true) rfl rfl (decide_eq_true (by omega))) rfl ?_)
    | refine x_op rfl (x_val (r_lss (r := false) rfl rfl (decide_eq_false (by omega))) rfl ?_)
    | refine x_op rfl (x_val (r_leq (r := true) rfl rfl (decide_eq_true (by omega))) rfl ?_)
    | refine x_op rfl (x_val (r_leq (r := false) rfl rfl (decide_eq_false (by omega))) rfl ?_)
    | refine x_op rfl (x_val (r_gtr (r := true) rfl rfl (decide_eq_true (by omega))) rfl ?_)
    | refine x_op rfl (x_val (r_gtr (r := false) rfl rfl (decide_eq_false (by omega))) rfl ?_)
    | refine x_op rfl (x_val (r_geq (r := true) rfl rfl (decide_eq_true (by omega))) rfl ?_)
    | refine x_op rfl (x_val (r_geq (r := false) rfl rfl (decide_eq_false (by omega))) rfl ?_)
    | refine x_op rfl (x_val (r_eql (r := true) rfl rfl (decide_eq_true (by omega))) rfl ?_)
    | refine x_op rfl (x_val (r_eql (r := false) rfl rfl (decide_eq_false (by omega))) rfl ?_)
    | refine x_op rfl (x_val (r_neq (r := true) rfl rfl (decide_eq_true (by omega))) rfl ?_)
    | refine x_op rfl (x_val (r_neq (r := false) rfl rfl (decide_eq_false (by omega))) rfl ?_)
    | refine x_op rfl (x_val (by first | exact r_ownN (i := 0) (by assumption) rfl rfl rfl | exact r_ownN (i := 1) (by assumption) rfl rfl rfl | exact r_ownN (i := 2) (by assumption) rfl rfl rfl | exact r_ownN (i := 3) (by assumption) rfl rfl rfl | exact r_ownN (i := 4) (by assumption) rfl rfl rfl | exact r_ownN (i := 5) (by assumption) rfl rfl rfl) rfl ?_)
    | refine x_op rfl (s_store (i := 0) (by assumption) rfl rfl rfl rfl rfl rfl ?_)
    | refine x_op rfl (s_store (i := 1) (by assumption) rfl rfl rfl rfl rfl rfl ?_)
    | refine x_op rfl (s_store (i := 2) (by assumption) rfl rfl rfl rfl rfl rfl ?_)
    | refine x_op rfl (s_store (i := 3) (by assumption) rfl rfl rfl rfl rfl rfl ?_)
    | refine x_op rfl (s_store (i := 4) (by assumption) rfl rfl rfl rfl rfl rfl ?_)
    | refine x_op rfl (s_store (i := 5) (by assumption) rfl rfl rfl rfl rfl rfl ?_)
    | refine x_op rfl (s_box rfl rfl fun b hb => ?_) | refine x_op rfl (s_alloc (by assumption) rfl fun b hb => ?_))
    refine x_loop (fun k : Nat => [(1, .pointer (some ⟨b0, 0, none⟩)), (34, .slice A n c), (35, .int .i64 n), (36, .int .i64 k)]) (fun _ => [bl b0 26 #[.bool br, .int .i64 first, .slice A n c]])
      (fun k => k ≤ n ∧ rightL br none ps = rightL br (prevOf ps k) (ps.drop k)) (fun k => n - k) 0 ⟨rfl, rfl, rfl, rfl, trivial⟩ (fun _ h => h) ⟨by omega, rfl⟩ (fun k hk => ?_)
    obtain ⟨hk, hI⟩ := hk
    repeat (first
    | refine x_seq ?_ | refine x_region ?_ | refine x_nil ?_ | refine x_block ?_ | refine x_skip ?_ | refine x_exit rfl ?_ | refine x_true rfl ?_ | refine x_false rfl ?_ | refine x_ret ?_ | refine x_tend ?_
    | refine x_off rfl rfl ?_ | refine x_off0 rfl ?_
    | refine x_op rfl (x_val (r_move rfl) rfl ?_)
    | refine x_op rfl (x_val (r_assign rfl) rfl ?_)
    | refine x_op rfl (x_val (r_extract rfl rfl) rfl ?_)
    | refine x_op rfl (x_val (r_pick_t rfl rfl) rfl ?_)
    | refine x_op rfl (x_val (r_pick_f rfl rfl) rfl ?_)
    | refine x_op rfl (x_val (r_fieldAddr (by assumption) rfl) rfl ?_)
    | refine x_op rfl (x_val (by first | exact r_own_add (i := 0) (by assumption) rfl rfl rfl | exact r_own_add (i := 1) (by assumption) rfl rfl rfl | exact r_own_add (i := 2) (by assumption) rfl rfl rfl | exact r_own_add (i := 3) (by assumption) rfl rfl rfl | exact r_own_add (i := 4) (by assumption) rfl rfl rfl | exact r_own_add (i := 5) (by assumption) rfl rfl rfl | exact r_own (i := 0) (by assumption) rfl rfl rfl | exact r_own (i := 1) (by assumption) rfl rfl rfl | exact r_own (i := 2) (by assumption) rfl rfl rfl | exact r_own (i := 3) (by assumption) rfl rfl rfl | exact r_own (i := 4) (by assumption) rfl rfl rfl | exact r_own (i := 5) (by assumption) rfl rfl rfl) rfl ?_)
    | refine x_op rfl (x_val (r_len_string (by assumption) rfl) rfl ?_)
    | refine x_op rfl (x_val (r_len_slice (by assumption) rfl) rfl ?_)
    | refine x_op rfl (x_val (r_cap_slice (by assumption) rfl) rfl ?_)
    | refine x_op rfl (x_val (r_not rfl rfl) rfl ?_)
    | refine x_op rfl (x_val (r_add rfl rfl ⟨by omega, by omega⟩) rfl ?_)
    | refine x_op rfl (x_val (r_sub rfl rfl ⟨by omega, by omega⟩) rfl ?_)
    | refine x_op rfl (x_val (r_build (by assumption) (by assumption) rfl rfl) rfl ?_)
    | refine x_op rfl (x_val (r_nilCheck rfl) rfl ?_)
    | refine x_op rfl (x_val (r_lss (r := true) rfl rfl (decide_eq_true (by omega))) rfl ?_)
    | refine x_op rfl (x_val (r_lss (r := false) rfl rfl (decide_eq_false (by omega))) rfl ?_)
    | refine x_op rfl (x_val (r_leq (r := true) rfl rfl (decide_eq_true (by omega))) rfl ?_)
    | refine x_op rfl (x_val (r_leq (r := false) rfl rfl (decide_eq_false (by omega))) rfl ?_)
    | refine x_op rfl (x_val (r_gtr (r := true) rfl rfl (decide_eq_true (by omega))) rfl ?_)
    | refine x_op rfl (x_val (r_gtr (r := false) rfl rfl (decide_eq_false (by omega))) rfl ?_)
    | refine x_op rfl (x_val (r_geq (r := true) rfl rfl (decide_eq_true (by omega))) rfl ?_)
    | refine x_op rfl (x_val (r_geq (r := false) rfl rfl (decide_eq_false (by omega))) rfl ?_)
    | refine x_op rfl (x_val (r_eql (r := true) rfl rfl (decide_eq_true (by omega))) rfl ?_)
    | refine x_op rfl (x_val (r_eql (r := false) rfl rfl (decide_eq_false (by omega))) rfl ?_)
    | refine x_op rfl (x_val (r_neq (r := true) rfl rfl (decide_eq_true (by omega))) rfl ?_)
    | refine x_op rfl (x_val (r_neq (r := false) rfl rfl (decide_eq_false (by omega))) rfl ?_)
    | refine x_op rfl (x_val (by first | exact r_ownN (i := 0) (by assumption) rfl rfl rfl | exact r_ownN (i := 1) (by assumption) rfl rfl rfl | exact r_ownN (i := 2) (by assumption) rfl rfl rfl | exact r_ownN (i := 3) (by assumption) rfl rfl rfl | exact r_ownN (i := 4) (by assumption) rfl rfl rfl | exact r_ownN (i := 5) (by assumption) rfl rfl rfl) rfl ?_)
    | refine x_op rfl (s_store (i := 0) (by assumption) rfl rfl rfl rfl rfl rfl ?_)
    | refine x_op rfl (s_store (i := 1) (by assumption) rfl rfl rfl rfl rfl rfl ?_)
    | refine x_op rfl (s_store (i := 2) (by assumption) rfl rfl rfl rfl rfl rfl ?_)
    | refine x_op rfl (s_store (i := 3) (by assumption) rfl rfl rfl rfl rfl rfl ?_)
    | refine x_op rfl (s_store (i := 4) (by assumption) rfl rfl rfl rfl rfl rfl ?_)
    | refine x_op rfl (s_store (i := 5) (by assumption) rfl rfl rfl rfl rfl rfl ?_)
    | refine x_op rfl (s_box rfl rfl fun b hb => ?_) | refine x_op rfl (s_alloc (by assumption) rfl fun b hb => ?_))
    refine x_op rfl (x_val (r_lss rfl rfl rfl) rfl (x_dec (fun hb => ?_) (fun hb => ?_)))
    · have hc : ps[k]? = some (ps[k]'(by omega)) := List.getElem?_eq_getElem _
      generalize ps[k]'(by omega) = p at hc
      have hsp := hsz p (List.mem_of_getElem? hc)
      obtain ⟨ad, rfl⟩ := hr.some_ (by omega)
      have hbad : cellOk br (prevOf ps k) p = false → rightB br first ps = false := right_bad hc hI
      repeat (first
    | refine x_seq ?_ | refine x_region ?_ | refine x_nil ?_ | refine x_block ?_ | refine x_skip ?_ | refine x_exit rfl ?_ | refine x_true rfl ?_ | refine x_false rfl ?_ | refine x_ret ?_ | refine x_tend ?_
    | refine x_off rfl rfl ?_ | refine x_off0 rfl ?_
    | refine x_op rfl (x_val (r_move rfl) rfl ?_)
    | refine x_op rfl (x_val (r_assign rfl) rfl ?_)
    | refine x_op rfl (x_val (r_extract rfl rfl) rfl ?_)
    | refine x_op rfl (x_val (r_pick_t rfl rfl) rfl ?_)
    | refine x_op rfl (x_val (r_pick_f rfl rfl) rfl ?_)
    | refine x_op rfl (x_val (r_fieldAddr (by assumption) rfl) rfl ?_)
    | refine x_op rfl (x_val (by first | exact r_own_add (i := 0) (by assumption) rfl rfl rfl | exact r_own_add (i := 1) (by assumption) rfl rfl rfl | exact r_own_add (i := 2) (by assumption) rfl rfl rfl | exact r_own_add (i := 3) (by assumption) rfl rfl rfl | exact r_own_add (i := 4) (by assumption) rfl rfl rfl | exact r_own_add (i := 5) (by assumption) rfl rfl rfl | exact r_own (i := 0) (by assumption) rfl rfl rfl | exact r_own (i := 1) (by assumption) rfl rfl rfl | exact r_own (i := 2) (by assumption) rfl rfl rfl | exact r_own (i := 3) (by assumption) rfl rfl rfl | exact r_own (i := 4) (by assumption) rfl rfl rfl | exact r_own (i := 5) (by assumption) rfl rfl rfl) rfl ?_)
    | refine x_op rfl (x_val (r_len_string (by assumption) rfl) rfl ?_)
    | refine x_op rfl (x_val (r_len_slice (by assumption) rfl) rfl ?_)
    | refine x_op rfl (x_val (r_cap_slice (by assumption) rfl) rfl ?_)
    | refine x_op rfl (x_val (r_not rfl rfl) rfl ?_)
    | refine x_op rfl (x_val (r_add rfl rfl ⟨by omega, by omega⟩) rfl ?_)
    | refine x_op rfl (x_val (r_sub rfl rfl ⟨by omega, by omega⟩) rfl ?_)
    | refine x_op rfl (x_val (r_build (by assumption) (by assumption) rfl rfl) rfl ?_)
    | refine x_op rfl (x_val (r_nilCheck rfl) rfl ?_)
    | refine x_op rfl (x_val (r_lss (r := true) rfl rfl (decide_eq_true (by omega))) rfl ?_)
    | refine x_op rfl (x_val (r_lss (r := false) rfl rfl (decide_eq_false (by omega))) rfl ?_)
    | refine x_op rfl (x_val (r_leq (r := true) rfl rfl (decide_eq_true (by omega))) rfl ?_)
    | refine x_op rfl (x_val (r_leq (r := false) rfl rfl (decide_eq_false (by omega))) rfl ?_)
    | refine x_op rfl (x_val (r_gtr (r := true) rfl rfl (decide_eq_true (by omega))) rfl ?_)
    | refine x_op rfl (x_val (r_gtr (r := false) rfl rfl (decide_eq_false (by omega))) rfl ?_)
    | refine x_op rfl (x_val (r_geq (r := true) rfl rfl (decide_eq_true (by omega))) rfl ?_)
    | refine x_op rfl (x_val (r_geq (r := false) rfl rfl (decide_eq_false (by omega))) rfl ?_)
    | refine x_op rfl (x_val (r_eql (r := true) rfl rfl (decide_eq_true (by omega))) rfl ?_)
    | refine x_op rfl (x_val (r_eql (r := false) rfl rfl (decide_eq_false (by omega))) rfl ?_)
    | refine x_op rfl (x_val (r_neq (r := true) rfl rfl (decide_eq_true (by omega))) rfl ?_)
    | refine x_op rfl (x_val (r_neq (r := false) rfl rfl (decide_eq_false (by omega))) rfl ?_)
    | refine x_op rfl (x_val (by first | exact r_ownN (i := 0) (by assumption) rfl rfl rfl | exact r_ownN (i := 1) (by assumption) rfl rfl rfl | exact r_ownN (i := 2) (by assumption) rfl rfl rfl | exact r_ownN (i := 3) (by assumption) rfl rfl rfl | exact r_ownN (i := 4) (by assumption) rfl rfl rfl | exact r_ownN (i := 5) (by assumption) rfl rfl rfl) rfl ?_)
    | refine x_op rfl (s_store (i := 0) (by assumption) rfl rfl rfl rfl rfl rfl ?_)
    | refine x_op rfl (s_store (i := 1) (by assumption) rfl rfl rfl rfl rfl rfl ?_)
    | refine x_op rfl (s_store (i := 2) (by assumption) rfl rfl rfl rfl rfl rfl ?_)
    | refine x_op rfl (s_store (i := 3) (by assumption) rfl rfl rfl rfl rfl rfl ?_)
    | refine x_op rfl (s_store (i := 4) (by assumption) rfl rfl rfl rfl rfl rfl ?_)
    | refine x_op rfl (s_store (i := 5) (by assumption) rfl rfl rfl rfl rfl rfl ?_)
    | refine x_op rfl (s_box rfl rfl fun b hb => ?_) | refine x_op rfl (s_alloc (by assumption) rfl fun b hb => ?_))
      refine x_op rfl (x_val (r_indexAddr u22 i36 rfl rfl ⟨by omega, by omega⟩) rfl ?_)
      refine x_op rfl (x_val (r_loadN [.string p.1, .string p.2] z36 rfl rfl fun w hS => pair_ (hS.rd0 hr) hc) rfl ?_)
      repeat (first
    | refine x_region ?_ | refine x_nil ?_ | refine x_tend ?_
    | refine x_off rfl rfl ?_ | refine x_off0 rfl ?_
    | refine x_op rfl (x_val (r_move rfl) rfl ?_)
    | refine x_op rfl (x_val (r_assign rfl) rfl ?_)
    | refine x_op rfl (x_val (r_extract rfl rfl) rfl ?_)
    | refine x_op rfl (x_val (r_pick_t rfl rfl) rfl ?_)
    | refine x_op rfl (x_val (r_pick_f rfl rfl) rfl ?_)
    | refine x_op rfl (x_val (r_fieldAddr (by assumption) rfl) rfl ?_)
    | refine x_op rfl (x_val (by first | exact r_own_add (i := 0) (by assumption) rfl rfl rfl | exact r_own_add (i := 1) (by assumption) rfl rfl rfl | exact r_own_add (i := 2) (by assumption) rfl rfl rfl | exact r_own_add (i := 3) (by assumption) rfl rfl rfl | exact r_own_add (i := 4) (by assumption) rfl rfl rfl | exact r_own_add (i := 5) (by assumption) rfl rfl rfl | exact r_own (i := 0) (by assumption) rfl rfl rfl | exact r_own (i := 1) (by assumption) rfl rfl rfl | exact r_own (i := 2) (by assumption) rfl rfl rfl | exact r_own (i := 3) (by assumption) rfl rfl rfl | exact r_own (i := 4) (by assumption) rfl rfl rfl | exact r_own (i := 5) (by assumption) rfl rfl rfl) rfl ?_)
    | refine x_op rfl (x_val (r_len_string (by assumption) rfl) rfl ?_)
    | refine x_op rfl (x_val (r_len_slice (by assumption) rfl) rfl ?_)
    | refine x_op rfl (x_val (r_cap_slice (by assumption) rfl) rfl ?_)
    | refine x_op rfl (x_val (r_not rfl rfl) rfl ?_)
    | refine x_op rfl (x_val (r_add rfl rfl ⟨by omega, by omega⟩) rfl ?_)
    | refine x_op rfl (x_val (r_sub rfl rfl ⟨by omega, by omega⟩) rfl ?_)
    | refine x_op rfl (x_val (r_build (by assumption) (by assumption) rfl rfl) rfl ?_)
    | refine x_op rfl (x_val (r_nilCheck rfl) rfl ?_)
    | refine x_op rfl (x_val (r_lss (r := true) rfl rfl (decide_eq_true (by omega))) rfl ?_)
    | refine x_op rfl (x_val (r_lss (r := false) rfl rfl (decide_eq_false (by omega))) rfl ?_)
    | refine x_op rfl (x_val (r_leq (r := true) rfl rfl (decide_eq_true (by omega))) rfl ?_)
    | refine x_op rfl (x_val (r_leq (r := false) rfl rfl (decide_eq_false (by omega))) rfl ?_)
    | refine x_op rfl (x_val (r_gtr (r := true) rfl rfl (decide_eq_true (by omega))) rfl ?_)
    | refine x_op rfl (x_val (r_gtr (r := false) rfl rfl (decide_eq_false (by omega))) rfl ?_)
    | refine x_op rfl (x_val (r_geq (r := true) rfl rfl (decide_eq_true (by omega))) rfl ?_)
    | refine x_op rfl (x_val (r_geq (r := false) rfl rfl (decide_eq_false (by omega))) rfl ?_)
    | refine x_op rfl (x_val (r_eql (r := true) rfl rfl (decide_eq_true (by omega))) rfl ?_)
    | refine x_op rfl (x_val (r_eql (r := false) rfl rfl (decide_eq_false (by omega))) rfl ?_)
    | refine x_op rfl (x_val (r_neq (r := true) rfl rfl (decide_eq_true (by omega))) rfl ?_)
    | refine x_op rfl (x_val (r_neq (r := false) rfl rfl (decide_eq_false (by omega))) rfl ?_)
    | refine x_op rfl (x_val (by first | exact r_ownN (i := 0) (by assumption) rfl rfl rfl | exact r_ownN (i := 1) (by assumption) rfl rfl rfl | exact r_ownN (i := 2) (by assumption) rfl rfl rfl | exact r_ownN (i := 3) (by assumption) rfl rfl rfl | exact r_ownN (i := 4) (by assumption) rfl rfl rfl | exact r_ownN (i := 5) (by assumption) rfl rfl rfl) rfl ?_)
    | refine x_op rfl (s_store (i := 0) (by assumption) rfl rfl rfl rfl rfl rfl ?_)
    | refine x_op rfl (s_store (i := 1) (by assumption) rfl rfl rfl rfl rfl rfl ?_)
    | refine x_op rfl (s_store (i := 2) (by assumption) rfl rfl rfl rfl rfl rfl ?_)
    | refine x_op rfl (s_store (i := 3) (by assumption) rfl rfl rfl rfl rfl rfl ?_)
    | refine x_op rfl (s_store (i := 4) (by assumption) rfl rfl rfl rfl rfl rfl ?_)
    | refine x_op rfl (s_store (i := 5) (by assumption) rfl rfl rfl rfl rfl rfl ?_)
    | refine x_op rfl (s_box rfl rfl fun b hb => ?_) | refine x_op rfl (s_alloc (by assumption) rfl fun b hb => ?_))
      obtain ⟨b1, hbb⟩ : ∃ x, x = b := ⟨b, rfl⟩; subst hbb
      refine x_cut (σ := Unit) (fun _ => [(1, .pointer (some ⟨b0, 0, none⟩)), (34, .slice (some ad) n c), (35, .int .i64 n), (36, .int .i64 k), (4, .pointer (some ⟨b1, 0, none⟩))])
        (fun _ => [bl b1 36 #[.string p.1, .string p.2], bl b0 26 #[.bool br, .int .i64 first, .slice (some ad) n c]])
        (fun _ => keyOk (prevOf ps k) p = true) ?_ (fun _ hgood => ?_)
      · refine x_seq ?_
        refine x_text (by kernel_rfl) ?_
        repeat (first
    | refine x_tend ?_ | refine x_tkoff rfl rfl (fun _ h => h) ?_
    | refine x_tk rfl (r_move rfl) rfl (fun _ h => h) ?_
    | refine x_tk rfl (r_assign rfl) rfl (fun _ h => h) ?_
    | refine x_tk rfl (r_extract rfl rfl) rfl (fun _ h => h) ?_
    | refine x_tk rfl (r_pick_t rfl rfl) rfl (fun _ h => h) ?_
    | refine x_tk rfl (r_pick_f rfl rfl) rfl (fun _ h => h) ?_
    | refine x_tk rfl (r_fieldAddr (by assumption) rfl) rfl (fun _ h => h) ?_
    | refine x_tk rfl (by first | exact r_own_add (i := 0) (by assumption) rfl rfl rfl | exact r_own_add (i := 1) (by assumption) rfl rfl rfl | exact r_own_add (i := 2) (by assumption) rfl rfl rfl | exact r_own_add (i := 3) (by assumption) rfl rfl rfl | exact r_own_add (i := 4) (by assumption) rfl rfl rfl | exact r_own_add (i := 5) (by assumption) rfl rfl rfl | exact r_own (i := 0) (by assumption) rfl rfl rfl | exact r_own (i := 1) (by assumption) rfl rfl rfl | exact r_own (i := 2) (by assumption) rfl rfl rfl | exact r_own (i := 3) (by assumption) rfl rfl rfl | exact r_own (i := 4) (by assumption) rfl rfl rfl | exact r_own (i := 5) (by assumption) rfl rfl rfl) rfl (fun _ h => h) ?_
    | refine x_tk rfl (r_len_string (by assumption) rfl) rfl (fun _ h => h) ?_
    | refine x_tk rfl (r_len_slice (by assumption) rfl) rfl (fun _ h => h) ?_
    | refine x_tk rfl (r_cap_slice (by assumption) rfl) rfl (fun _ h => h) ?_
    | refine x_tk rfl (r_not rfl rfl) rfl (fun _ h => h) ?_
    | refine x_tk rfl (r_add rfl rfl ⟨by omega, by omega⟩) rfl (fun _ h => h) ?_
    | refine x_tk rfl (r_sub rfl rfl ⟨by omega, by omega⟩) rfl (fun _ h => h) ?_
    | refine x_tk rfl (r_build (by assumption) (by assumption) rfl rfl) rfl (fun _ h => h) ?_
    | refine x_tk rfl (r_nilCheck rfl) rfl (fun _ h => h) ?_
    | refine x_tk rfl (r_lss (r := true) rfl rfl (decide_eq_true (by omega))) rfl (fun _ h => h) ?_
    | refine x_tk rfl (r_lss (r := false) rfl rfl (decide_eq_false (by omega))) rfl (fun _ h => h) ?_
    | refine x_tk rfl (r_leq (r := true) rfl rfl (decide_eq_true (by omega))) rfl (fun _ h => h) ?_
    | refine x_tk rfl (r_leq (r := false) rfl rfl (decide_eq_false (by omega))) rfl (fun _ h => h) ?_
    | refine x_tk rfl (r_gtr (r := true) rfl rfl (decide_eq_true (by omega))) rfl (fun _ h => h) ?_
    | refine x_tk rfl (r_gtr (r := false) rfl rfl (decide_eq_false (by omega))) rfl (fun _ h => h) ?_
    | refine x_tk rfl (r_geq (r := true) rfl rfl (decide_eq_true (by omega))) rfl (fun _ h => h) ?_
    | refine x_tk rfl (r_geq (r := false) rfl rfl (decide_eq_false (by omega))) rfl (fun _ h => h) ?_
    | refine x_tk rfl (r_eql (r := true) rfl rfl (decide_eq_true (by omega))) rfl (fun _ h => h) ?_
    | refine x_tk rfl (r_eql (r := false) rfl rfl (decide_eq_false (by omega))) rfl (fun _ h => h) ?_
    | refine x_tk rfl (r_neq (r := true) rfl rfl (decide_eq_true (by omega))) rfl (fun _ h => h) ?_
    | refine x_tk rfl (r_neq (r := false) rfl rfl (decide_eq_false (by omega))) rfl (fun _ h => h) ?_
    | refine x_tk rfl (by first | exact r_ownN (i := 0) (by assumption) rfl rfl rfl | exact r_ownN (i := 1) (by assumption) rfl rfl rfl | exact r_ownN (i := 2) (by assumption) rfl rfl rfl | exact r_ownN (i := 3) (by assumption) rfl rfl rfl | exact r_ownN (i := 4) (by assumption) rfl rfl rfl | exact r_ownN (i := 5) (by assumption) rfl rfl rfl) rfl (fun _ h => h) ?_)
        refine x_tk rfl (r_eql_string rfl rfl rfl) rfl (fun _ h => h) (x_bool (fun hb => ?_) (fun hb => ?_))
        · rw [nil_toList] at hb
          have hR := hbad (by simp [cellOk, keyOk, hb])
          repeat (first
    | refine x_tend ?_ | refine x_tkoff rfl rfl (fun _ h => h) ?_
    | refine x_tk rfl (r_move rfl) rfl (fun _ h => h) ?_
    | refine x_tk rfl (r_assign rfl) rfl (fun _ h => h) ?_
    | refine x_tk rfl (r_extract rfl rfl) rfl (fun _ h => h) ?_
    | refine x_tk rfl (r_pick_t rfl rfl) rfl (fun _ h => h) ?_
    | refine x_tk rfl (r_pick_f rfl rfl) rfl (fun _ h => h) ?_
    | refine x_tk rfl (r_fieldAddr (by assumption) rfl) rfl (fun _ h => h) ?_
    | refine x_tk rfl (by first | exact r_own_add (i := 0) (by assumption) rfl rfl rfl | exact r_own_add (i := 1) (by assumption) rfl rfl rfl | exact r_own_add (i := 2) (by assumption) rfl rfl rfl | exact r_own_add (i := 3) (by assumption) rfl rfl rfl | exact r_own_add (i := 4) (by assumption) rfl rfl rfl | exact r_own_add (i := 5) (by assumption) rfl rfl rfl | exact r_own (i := 0) (by assumption) rfl rfl rfl | exact r_own (i := 1) (by assumption) rfl rfl rfl | exact r_own (i := 2) (by assumption) rfl rfl rfl | exact r_own (i := 3) (by assumption) rfl rfl rfl | exact r_own (i := 4) (by assumption) rfl rfl rfl | exact r_own (i := 5) (by assumption) rfl rfl rfl) rfl (fun _ h => h) ?_
    | refine x_tk rfl (r_len_string (by assumption) rfl) rfl (fun _ h => h) ?_
    | refine x_tk rfl (r_len_slice (by assumption) rfl) rfl (fun _ h => h) ?_
    | refine x_tk rfl (r_cap_slice (by assumption) rfl) rfl (fun _ h => h) ?_
    | refine x_tk rfl (r_not rfl rfl) rfl (fun _ h => h) ?_
    | refine x_tk rfl (r_add rfl rfl ⟨by omega, by omega⟩) rfl (fun _ h => h) ?_
    | refine x_tk rfl (r_sub rfl rfl ⟨by omega, by omega⟩) rfl (fun _ h => h) ?_
    | refine x_tk rfl (r_build (by assumption) (by assumption) rfl rfl) rfl (fun _ h => h) ?_
    | refine x_tk rfl (r_nilCheck rfl) rfl (fun _ h => h) ?_
    | refine x_tk rfl (r_lss (r := true) rfl rfl (decide_eq_true (by omega))) rfl (fun _ h => h) ?_
    | refine x_tk rfl (r_lss (r := false) rfl rfl (decide_eq_false (by omega))) rfl (fun _ h => h) ?_
    | refine x_tk rfl (r_leq (r := true) rfl rfl (decide_eq_true (by omega))) rfl (fun _ h => h) ?_
    | refine x_tk rfl (r_leq (r := false) rfl rfl (decide_eq_false (by omega))) rfl (fun _ h => h) ?_
    | refine x_tk rfl (r_gtr (r := true) rfl rfl (decide_eq_true (by omega))) rfl (fun _ h => h) ?_
    | refine x_tk rfl (r_gtr (r := false) rfl rfl (decide_eq_false (by omega))) rfl (fun _ h => h) ?_
    | refine x_tk rfl (r_geq (r := true) rfl rfl (decide_eq_true (by omega))) rfl (fun _ h => h) ?_
    | refine x_tk rfl (r_geq (r := false) rfl rfl (decide_eq_false (by omega))) rfl (fun _ h => h) ?_
    | refine x_tk rfl (r_eql (r := true) rfl rfl (decide_eq_true (by omega))) rfl (fun _ h => h) ?_
    | refine x_tk rfl (r_eql (r := false) rfl rfl (decide_eq_false (by omega))) rfl (fun _ h => h) ?_
    | refine x_tk rfl (r_neq (r := true) rfl rfl (decide_eq_true (by omega))) rfl (fun _ h => h) ?_
    | refine x_tk rfl (r_neq (r := false) rfl rfl (decide_eq_false (by omega))) rfl (fun _ h => h) ?_
    | refine x_tk rfl (by first | exact r_ownN (i := 0) (by assumption) rfl rfl rfl | exact r_ownN (i := 1) (by assumption) rfl rfl rfl | exact r_ownN (i := 2) (by assumption) rfl rfl rfl | exact r_ownN (i := 3) (by assumption) rfl rfl rfl | exact r_ownN (i := 4) (by assumption) rfl rfl rfl | exact r_ownN (i := 5) (by assumption) rfl rfl rfl) rfl (fun _ h => h) ?_)
          repeat (first
    | refine x_seq ?_ | refine x_region ?_ | refine x_nil ?_ | refine x_block ?_ | refine x_skip ?_ | refine x_exit rfl ?_ | refine x_true rfl ?_ | refine x_false rfl ?_ | refine x_ret ?_ | refine x_tend ?_
    | refine x_off rfl rfl ?_ | refine x_off0 rfl ?_
    | refine x_op rfl (x_val (r_move rfl) rfl ?_)
    | refine x_op rfl (x_val (r_assign rfl) rfl ?_)
    | refine x_op rfl (x_val (r_extract rfl rfl) rfl ?_)
    | refine x_op rfl (x_val (r_pick_t rfl rfl) rfl ?_)
    | refine x_op rfl (x_val (r_pick_f rfl rfl) rfl ?_)
    | refine x_op rfl (x_val (r_fieldAddr (by assumption) rfl) rfl ?_)
    | refine x_op rfl (x_val (by first | exact r_own_add (i := 0) (by assumption) rfl rfl rfl | exact r_own_add (i := 1) (by assumption) rfl rfl rfl | exact r_own_add (i := 2) (by assumption) rfl rfl rfl | exact r_own_add (i := 3) (by assumption) rfl rfl rfl | exact r_own_add (i := 4) (by assumption) rfl rfl rfl | exact r_own_add (i := 5) (by assumption) rfl rfl rfl | exact r_own (i := 0) (by assumption) rfl rfl rfl | exact r_own (i := 1) (by assumption) rfl rfl rfl | exact r_own (i := 2) (by assumption) rfl rfl rfl | exact r_own (i := 3) (by assumption) rfl rfl rfl | exact r_own (i := 4) (by assumption) rfl rfl rfl | exact r_own (i := 5) (by assumption) rfl rfl rfl) rfl ?_)
    | refine x_op rfl (x_val (r_len_string (by assumption) rfl) rfl ?_)
    | refine x_op rfl (x_val (r_len_slice (by assumption) rfl) rfl ?_)
    | refine x_op rfl (x_val (r_cap_slice (by assumption) rfl) rfl ?_)
    | refine x_op rfl (x_val (r_not rfl rfl) rfl ?_)
    | refine x_op rfl (x_val (r_add rfl rfl ⟨by omega, by omega⟩) rfl ?_)
    | refine x_op rfl (x_val (r_sub rfl rfl ⟨by omega, by omega⟩) rfl ?_)
    | refine x_op rfl (x_val (r_build (by assumption) (by assumption) rfl rfl) rfl ?_)
    | refine x_op rfl (x_val (r_nilCheck rfl) rfl ?_)
    | refine x_op rfl (x_val (r_lss (r := true) rfl rfl (decide_eq_true (by omega))) rfl ?_)
    | refine x_op rfl (x_val (r_lss (r := false) rfl rfl (decide_eq_false (by omega))) rfl ?_)
    | refine x_op rfl (x_val (r_leq (r := true) rfl rfl (decide_eq_true (by omega))) rfl ?_)
    | refine x_op rfl (x_val (r_leq (r := false) rfl rfl (decide_eq_false (by omega))) rfl ?_)
    | refine x_op rfl (x_val (r_gtr (r := true) rfl rfl (decide_eq_true (by omega))) rfl ?_)
    | refine x_op rfl (x_val (r_gtr (r := false) rfl rfl (decide_eq_false (by omega))) rfl ?_)
    | refine x_op rfl (x_val (r_geq (r := true) rfl rfl (decide_eq_true (by omega))) rfl ?_)
    | refine x_op rfl (x_val (r_geq (r := false) rfl rfl (decide_eq_false (by omega))) rfl ?_)
    | refine x_op rfl (x_val (r_eql (r := true) rfl rfl (decide_eq_true (by omega))) rfl ?_)
    | refine x_op rfl (x_val (r_eql (r := false) rfl rfl (decide_eq_false (by omega))) rfl ?_)
    | refine x_op rfl (x_val (r_neq (r := true) rfl rfl (decide_eq_true (by omega))) rfl ?_)
    | refine x_op rfl (x_val (r_neq (r := false) rfl rfl (decide_eq_false (by omega))) rfl ?_)
    | refine x_op rfl (x_val (by first | exact r_ownN (i := 0) (by assumption) rfl rfl rfl | exact r_ownN (i := 1) (by assumption) rfl rfl rfl | exact r_ownN (i := 2) (by assumption) rfl rfl rfl | exact r_ownN (i := 3) (by assumption) rfl rfl rfl | exact r_ownN (i := 4) (by assumption) rfl rfl rfl | exact r_ownN (i := 5) (by assumption) rfl rfl rfl) rfl ?_)
    | refine x_op rfl (s_store (i := 0) (by assumption) rfl rfl rfl rfl rfl rfl ?_)
    | refine x_op rfl (s_store (i := 1) (by assumption) rfl rfl rfl rfl rfl rfl ?_)
    | refine x_op rfl (s_store (i := 2) (by assumption) rfl rfl rfl rfl rfl rfl ?_)
    | refine x_op rfl (s_store (i := 3) (by assumption) rfl rfl rfl rfl rfl rfl ?_)
    | refine x_op rfl (s_store (i := 4) (by assumption) rfl rfl rfl rfl rfl rfl ?_)
    | refine x_op rfl (s_store (i := 5) (by assumption) rfl rfl rfl rfl rfl rfl ?_)
    | refine x_op rfl (s_box rfl rfl fun b hb => ?_) | refine x_op rfl (s_alloc (by assumption) rfl fun b hb => ?_))
          exact x_ret1 rfl rfl fun w1 hO => ⟨_, rfl, by rw [hR], hO.none_⟩
        rw [nil_toList] at hb
        have hne := hb
        clear hb
        repeat (first
    | refine x_tend ?_ | refine x_tkoff rfl rfl (fun _ h => h) ?_
    | refine x_tk rfl (r_move rfl) rfl (fun _ h => h) ?_
    | refine x_tk rfl (r_assign rfl) rfl (fun _ h => h) ?_
    | refine x_tk rfl (r_extract rfl rfl) rfl (fun _ h => h) ?_
    | refine x_tk rfl (r_pick_t rfl rfl) rfl (fun _ h => h) ?_
    | refine x_tk rfl (r_pick_f rfl rfl) rfl (fun _ h => h) ?_
    | refine x_tk rfl (r_fieldAddr (by assumption) rfl) rfl (fun _ h => h) ?_
    | refine x_tk rfl (by first | exact r_own_add (i := 0) (by assumption) rfl rfl rfl | exact r_own_add (i := 1) (by assumption) rfl rfl rfl | exact r_own_add (i := 2) (by assumption) rfl rfl rfl | exact r_own_add (i := 3) (by assumption) rfl rfl rfl | exact r_own_add (i := 4) (by assumption) rfl rfl rfl | exact r_own_add (i := 5) (by assumption) rfl rfl rfl | exact r_own (i := 0) (by assumption) rfl rfl rfl | exact r_own (i := 1) (by assumption) rfl rfl rfl | exact r_own (i := 2) (by assumption) rfl rfl rfl | exact r_own (i := 3) (by assumption) rfl rfl rfl | exact r_own (i := 4) (by assumption) rfl rfl rfl | exact r_own (i := 5) (by assumption) rfl rfl rfl) rfl (fun _ h => h) ?_
    | refine x_tk rfl (r_len_string (by assumption) rfl) rfl (fun _ h => h) ?_
    | refine x_tk rfl (r_len_slice (by assumption) rfl) rfl (fun _ h => h) ?_
    | refine x_tk rfl (r_cap_slice (by assumption) rfl) rfl (fun _ h => h) ?_
    | refine x_tk rfl (r_not rfl rfl) rfl (fun _ h => h) ?_
    | refine x_tk rfl (r_add rfl rfl ⟨by omega, by omega⟩) rfl (fun _ h => h) ?_
    | refine x_tk rfl (r_sub rfl rfl ⟨by omega, by omega⟩) rfl (fun _ h => h) ?_
    | refine x_tk rfl (r_build (by assumption) (by assumption) rfl rfl) rfl (fun _ h => h) ?_
    | refine x_tk rfl (r_nilCheck rfl) rfl (fun _ h => h) ?_
    | refine x_tk rfl (r_lss (r := true) rfl rfl (decide_eq_true (by omega))) rfl (fun _ h => h) ?_
    | refine x_tk rfl (r_lss (r := false) rfl rfl (decide_eq_false (by omega))) rfl (fun _ h => h) ?_
    | refine x_tk rfl (r_leq (r := true) rfl rfl (decide_eq_true (by omega))) rfl (fun _ h => h) ?_
    | refine x_tk rfl (r_leq (r := false) rfl rfl (decide_eq_false (by omega))) rfl (fun _ h => h) ?_
    | refine x_tk rfl (r_gtr (r := true) rfl rfl (decide_eq_true (by omega))) rfl (fun _ h => h) ?_
    | refine x_tk rfl (r_gtr (r := false) rfl rfl (decide_eq_false (by omega))) rfl (fun _ h => h) ?_
    | refine x_tk rfl (r_geq (r := true) rfl rfl (decide_eq_true (by omega))) rfl (fun _ h => h) ?_
    | refine x_tk rfl (r_geq (r := false) rfl rfl (decide_eq_false (by omega))) rfl (fun _ h => h) ?_
    | refine x_tk rfl (r_eql (r := true) rfl rfl (decide_eq_true (by omega))) rfl (fun _ h => h) ?_
    | refine x_tk rfl (r_eql (r := false) rfl rfl (decide_eq_false (by omega))) rfl (fun _ h => h) ?_
    | refine x_tk rfl (r_neq (r := true) rfl rfl (decide_eq_true (by omega))) rfl (fun _ h => h) ?_
    | refine x_tk rfl (r_neq (r := false) rfl rfl (decide_eq_false (by omega))) rfl (fun _ h => h) ?_
    | refine x_tk rfl (by first | exact r_ownN (i := 0) (by assumption) rfl rfl rfl | exact r_ownN (i := 1) (by assumption) rfl rfl rfl | exact r_ownN (i := 2) (by assumption) rfl rfl rfl | exact r_ownN (i := 3) (by assumption) rfl rfl rfl | exact r_ownN (i := 4) (by assumption) rfl rfl rfl | exact r_ownN (i := 5) (by assumption) rfl rfl rfl) rfl (fun _ h => h) ?_)
        refine x_tk rfl (r_gtr rfl rfl rfl) rfl (fun _ h => h) (x_dec (fun hb => ?_) (fun hb => ?_))
        · have hR := hbad (by
            have : decide ((p.1.size : Int) ≤ 32) = false := decide_eq_false (by omega)
            simp [cellOk, keyOk, this])
          repeat (first
    | refine x_tend ?_ | refine x_tkoff rfl rfl (fun _ h => h) ?_
    | refine x_tk rfl (r_move rfl) rfl (fun _ h => h) ?_
    | refine x_tk rfl (r_assign rfl) rfl (fun _ h => h) ?_
    | refine x_tk rfl (r_extract rfl rfl) rfl (fun _ h => h) ?_
    | refine x_tk rfl (r_pick_t rfl rfl) rfl (fun _ h => h) ?_
    | refine x_tk rfl (r_pick_f rfl rfl) rfl (fun _ h => h) ?_
    | refine x_tk rfl (r_fieldAddr (by assumption) rfl) rfl (fun _ h => h) ?_
    | refine x_tk rfl (by first | exact r_own_add (i := 0) (by assumption) rfl rfl rfl | exact r_own_add (i := 1) (by assumption) rfl rfl rfl | exact r_own_add (i := 2) (by assumption) rfl rfl rfl | exact r_own_add (i := 3) (by assumption) rfl rfl rfl | exact r_own_add (i := 4) (by assumption) rfl rfl rfl | exact r_own_add (i := 5) (by assumption) rfl rfl rfl | exact r_own (i := 0) (by assumption) rfl rfl rfl | exact r_own (i := 1) (by assumption) rfl rfl rfl | exact r_own (i := 2) (by assumption) rfl rfl rfl | exact r_own (i := 3) (by assumption) rfl rfl rfl | exact r_own (i := 4) (by assumption) rfl rfl rfl | exact r_own (i := 5) (by assumption) rfl rfl rfl) rfl (fun _ h => h) ?_
    | refine x_tk rfl (r_len_string (by assumption) rfl) rfl (fun _ h => h) ?_
    | refine x_tk rfl (r_len_slice (by assumption) rfl) rfl (fun _ h => h) ?_
    | refine x_tk rfl (r_cap_slice (by assumption) rfl) rfl (fun _ h => h) ?_
    | refine x_tk rfl (r_not rfl rfl) rfl (fun _ h => h) ?_
    | refine x_tk rfl (r_add rfl rfl ⟨by omega, by omega⟩) rfl (fun _ h => h) ?_
    | refine x_tk rfl (r_sub rfl rfl ⟨by omega, by omega⟩) rfl (fun _ h => h) ?_
    | refine x_tk rfl (r_build (by assumption) (by assumption) rfl rfl) rfl (fun _ h => h) ?_
    | refine x_tk rfl (r_nilCheck rfl) rfl (fun _ h => h) ?_
    | refine x_tk rfl (r_lss (r := true) rfl rfl (decide_eq_true (by omega))) rfl (fun _ h => h) ?_
    | refine x_tk rfl (r_lss (r := false) rfl rfl (decide_eq_false (by omega))) rfl (fun _ h => h) ?_
    | refine x_tk rfl (r_leq (r := true) rfl rfl (decide_eq_true (by omega))) rfl (fun _ h => h) ?_
    | refine x_tk rfl (r_leq (r := false) rfl rfl (decide_eq_false (by omega))) rfl (fun _ h => h) ?_
    | refine x_tk rfl (r_gtr (r := true) rfl rfl (decide_eq_true (by omega))) rfl (fun _ h => h) ?_
    | refine x_tk rfl (r_gtr (r := false) rfl rfl (decide_eq_false (by omega))) rfl (fun _ h => h) ?_
    | refine x_tk rfl (r_geq (r := true) rfl rfl (decide_eq_true (by omega))) rfl (fun _ h => h) ?_
    | refine x_tk rfl (r_geq (r := false) rfl rfl (decide_eq_false (by omega))) rfl (fun _ h => h) ?_
    | refine x_tk rfl (r_eql (r := true) rfl rfl (decide_eq_true (by omega))) rfl (fun _ h => h) ?_
    | refine x_tk rfl (r_eql (r := false) rfl rfl (decide_eq_false (by omega))) rfl (fun _ h => h) ?_
    | refine x_tk rfl (r_neq (r := true) rfl rfl (decide_eq_true (by omega))) rfl (fun _ h => h) ?_
    | refine x_tk rfl (r_neq (r := false) rfl rfl (decide_eq_false (by omega))) rfl (fun _ h => h) ?_
    | refine x_tk rfl (by first | exact r_ownN (i := 0) (by assumption) rfl rfl rfl | exact r_ownN (i := 1) (by assumption) rfl rfl rfl | exact r_ownN (i := 2) (by assumption) rfl rfl rfl | exact r_ownN (i := 3) (by assumption) rfl rfl rfl | exact r_ownN (i := 4) (by assumption) rfl rfl rfl | exact r_ownN (i := 5) (by assumption) rfl rfl rfl) rfl (fun _ h => h) ?_)
          repeat (first
    | refine x_seq ?_ | refine x_region ?_ | refine x_nil ?_ | refine x_block ?_ | refine x_skip ?_ | refine x_exit rfl ?_ | refine x_true rfl ?_ | refine x_false rfl ?_ | refine x_ret ?_ | refine x_tend ?_
    | refine x_off rfl rfl ?_ | refine x_off0 rfl ?_
    | refine x_op rfl (x_val (r_move rfl) rfl ?_)
    | refine x_op rfl (x_val (r_assign rfl) rfl ?_)
    | refine x_op rfl (x_val (r_extract rfl rfl) rfl ?_)
    | refine x_op rfl (x_val (r_pick_t rfl rfl) rfl ?_)
    | refine x_op rfl (x_val (r_pick_f rfl rfl) rfl ?_)
    | refine x_op rfl (x_val (r_fieldAddr (by assumption) rfl) rfl ?_)
    | refine x_op rfl (x_val (by first | exact r_own_add (i := 0) (by assumption) rfl rfl rfl | exact r_own_add (i := 1) (by assumption) rfl rfl rfl | exact r_own_add (i := 2) (by assumption) rfl rfl rfl | exact r_own_add (i := 3) (by assumption) rfl rfl rfl | exact r_own_add (i := 4) (by assumption) rfl rfl rfl | exact r_own_add (i := 5) (by assumption) rfl rfl rfl | exact r_own (i := 0) (by assumption) rfl rfl rfl | exact r_own (i := 1) (by assumption) rfl rfl rfl | exact r_own (i := 2) (by assumption) rfl rfl rfl | exact r_own (i := 3) (by assumption) rfl rfl rfl | exact r_own (i := 4) (by assumption) rfl rfl rfl | exact r_own (i := 5) (by assumption) rfl rfl rfl) rfl ?_)
    | refine x_op rfl (x_val (r_len_string (by assumption) rfl) rfl ?_)
    | refine x_op rfl (x_val (r_len_slice (by assumption) rfl) rfl ?_)
    | refine x_op rfl (x_val (r_cap_slice (by assumption) rfl) rfl ?_)
    | refine x_op rfl (x_val (r_not rfl rfl) rfl ?_)
    | refine x_op rfl (x_val (r_add rfl rfl ⟨by omega, by omega⟩) rfl ?_)
    | refine x_op rfl (x_val (r_sub rfl rfl ⟨by omega, by omega⟩) rfl ?_)
    | refine x_op rfl (x_val (r_build (by assumption) (by assumption) rfl rfl) rfl ?_)
    | refine x_op rfl (x_val (r_nilCheck rfl) rfl ?_)
    | refine x_op rfl (x_val (r_lss (r := true) rfl rfl (decide_eq_true (by omega))) rfl ?_)
    | refine x_op rfl (x_val (r_lss (r := false) rfl rfl (decide_eq_false (by omega))) rfl ?_)
    | refine x_op rfl (x_val (r_leq (r := true) rfl rfl (decide_eq_true (by omega))) rfl ?_)
    | refine x_op rfl (x_val (r_leq (r := false) rfl rfl (decide_eq_false (by omega))) rfl ?_)
    | refine x_op rfl (x_val (r_gtr (r := true) rfl rfl (decide_eq_true (by omega))) rfl ?_)
    | refine x_op rfl (x_val (r_gtr (r := false) rfl rfl (decide_eq_false (by omega))) rfl ?_)
    | refine x_op rfl (x_val (r_geq (r := true) rfl rfl (decide_eq_true (by omega))) rfl ?_)
    | refine x_op rfl (x_val (r_geq (r := false) rfl rfl (decide_eq_false (by omega))) rfl ?_)
    | refine x_op rfl (x_val (r_eql (r := true) rfl rfl (decide_eq_true (by omega))) rfl ?_)
    | refine x_op rfl (x_val (r_eql (r := false) rfl rfl (decide_eq_false (by omega))) rfl ?_)
    | refine x_op rfl (x_val (r_neq (r := true) rfl rfl (decide_eq_true (by omega))) rfl ?_)
    | refine x_op rfl (x_val (r_neq (r := false) rfl rfl (decide_eq_false (by omega))) rfl ?_)
    | refine x_op rfl (x_val (by first | exact r_ownN (i := 0) (by assumption) rfl rfl rfl | exact r_ownN (i := 1) (by assumption) rfl rfl rfl | exact r_ownN (i := 2) (by assumption) rfl rfl rfl | exact r_ownN (i := 3) (by assumption) rfl rfl rfl | exact r_ownN (i := 4) (by assumption) rfl rfl rfl | exact r_ownN (i := 5) (by assumption) rfl rfl rfl) rfl ?_)
    | refine x_op rfl (s_store (i := 0) (by assumption) rfl rfl rfl rfl rfl rfl ?_)
    | refine x_op rfl (s_store (i := 1) (by assumption) rfl rfl rfl rfl rfl rfl ?_)
    | refine x_op rfl (s_store (i := 2) (by assumption) rfl rfl rfl rfl rfl rfl ?_)
    | refine x_op rfl (s_store (i := 3) (by assumption) rfl rfl rfl rfl rfl rfl ?_)
    | refine x_op rfl (s_store (i := 4) (by assumption) rfl rfl rfl rfl rfl rfl ?_)
    | refine x_op rfl (s_store (i := 5) (by assumption) rfl rfl rfl rfl rfl rfl ?_)
    | refine x_op rfl (s_box rfl rfl fun b hb => ?_) | refine x_op rfl (s_alloc (by assumption) rfl fun b hb => ?_))
          exact x_ret1 rfl rfl fun w1 hO => ⟨_, rfl, by rw [hR], hO.none_⟩
        have h32 : decide ((p.1.size : Int) ≤ 32) = true := decide_eq_true (by omega)
        clear hb
        repeat (first
    | refine x_tend ?_ | refine x_tkoff rfl rfl (fun _ h => h) ?_
    | refine x_tk rfl (r_move rfl) rfl (fun _ h => h) ?_
    | refine x_tk rfl (r_assign rfl) rfl (fun _ h => h) ?_
    | refine x_tk rfl (r_extract rfl rfl) rfl (fun _ h => h) ?_
    | refine x_tk rfl (r_pick_t rfl rfl) rfl (fun _ h => h) ?_
    | refine x_tk rfl (r_pick_f rfl rfl) rfl (fun _ h => h) ?_
    | refine x_tk rfl (r_fieldAddr (by assumption) rfl) rfl (fun _ h => h) ?_
    | refine x_tk rfl (by first | exact r_own_add (i := 0) (by assumption) rfl rfl rfl | exact r_own_add (i := 1) (by assumption) rfl rfl rfl | exact r_own_add (i := 2) (by assumption) rfl rfl rfl | exact r_own_add (i := 3) (by assumption) rfl rfl rfl | exact r_own_add (i := 4) (by assumption) rfl rfl rfl | exact r_own_add (i := 5) (by assumption) rfl rfl rfl | exact r_own (i := 0) (by assumption) rfl rfl rfl | exact r_own (i := 1) (by assumption) rfl rfl rfl | exact r_own (i := 2) (by assumption) rfl rfl rfl | exact r_own (i := 3) (by assumption) rfl rfl rfl | exact r_own (i := 4) (by assumption) rfl rfl rfl | exact r_own (i := 5) (by assumption) rfl rfl rfl) rfl (fun _ h => h) ?_
    | refine x_tk rfl (r_len_string (by assumption) rfl) rfl (fun _ h => h) ?_
    | refine x_tk rfl (r_len_slice (by assumption) rfl) rfl (fun _ h => h) ?_
    | refine x_tk rfl (r_cap_slice (by assumption) rfl) rfl (fun _ h => h) ?_
    | refine x_tk rfl (r_not rfl rfl) rfl (fun _ h => h) ?_
    | refine x_tk rfl (r_add rfl rfl ⟨by omega, by omega⟩) rfl (fun _ h => h) ?_
    | refine x_tk rfl (r_sub rfl rfl ⟨by omega, by omega⟩) rfl (fun _ h => h) ?_
    | refine x_tk rfl (r_build (by assumption) (by assumption) rfl rfl) rfl (fun _ h => h) ?_
    | refine x_tk rfl (r_nilCheck rfl) rfl (fun _ h => h) ?_
    | refine x_tk rfl (r_lss (r := true) rfl rfl (decide_eq_true (by omega))) rfl (fun _ h => h) ?_
    | refine x_tk rfl (r_lss (r := false) rfl rfl (decide_eq_false (by omega))) rfl (fun _ h => h) ?_
    | refine x_tk rfl (r_leq (r := true) rfl rfl (decide_eq_true (by omega))) rfl (fun _ h => h) ?_
    | refine x_tk rfl (r_leq (r := false) rfl rfl (decide_eq_false (by omega))) rfl (fun _ h => h) ?_
    | refine x_tk rfl (r_gtr (r := true) rfl rfl (decide_eq_true (by omega))) rfl (fun _ h => h) ?_
    | refine x_tk rfl (r_gtr (r := false) rfl rfl (decide_eq_false (by omega))) rfl (fun _ h => h) ?_
    | refine x_tk rfl (r_geq (r := true) rfl rfl (decide_eq_true (by omega))) rfl (fun _ h => h) ?_
    | refine x_tk rfl (r_geq (r := false) rfl rfl (decide_eq_false (by omega))) rfl (fun _ h => h) ?_
    | refine x_tk rfl (r_eql (r := true) rfl rfl (decide_eq_true (by omega))) rfl (fun _ h => h) ?_
    | refine x_tk rfl (r_eql (r := false) rfl rfl (decide_eq_false (by omega))) rfl (fun _ h => h) ?_
    | refine x_tk rfl (r_neq (r := true) rfl rfl (decide_eq_true (by omega))) rfl (fun _ h => h) ?_
    | refine x_tk rfl (r_neq (r := false) rfl rfl (decide_eq_false (by omega))) rfl (fun _ h => h) ?_
    | refine x_tk rfl (by first | exact r_ownN (i := 0) (by assumption) rfl rfl rfl | exact r_ownN (i := 1) (by assumption) rfl rfl rfl | exact r_ownN (i := 2) (by assumption) rfl rfl rfl | exact r_ownN (i := 3) (by assumption) rfl rfl rfl | exact r_ownN (i := 4) (by assumption) rfl rfl rfl | exact r_ownN (i := 5) (by assumption) rfl rfl rfl) rfl (fun _ h => h) ?_)
        refine x_tk rfl (r_gtr rfl rfl rfl) rfl (fun _ h => h) (x_dec (fun hb => ?_) (fun hb => ?_))
        · have hq : ps[k - 1]? = some (ps[k - 1]'(by omega)) := List.getElem?_eq_getElem _
          generalize ps[k - 1]'(by omega) = q at hq
          have hpv : prevOf ps k = some q.1 := by simp [prevOf, hq]; omega
          have hk1 : ((k : Int) - 1).toNat = k - 1 := by omega
          repeat (first
    | refine x_tend ?_ | refine x_tkoff rfl rfl (fun _ h => h) ?_
    | refine x_tk rfl (r_move rfl) rfl (fun _ h => h) ?_
    | refine x_tk rfl (r_assign rfl) rfl (fun _ h => h) ?_
    | refine x_tk rfl (r_extract rfl rfl) rfl (fun _ h => h) ?_
    | refine x_tk rfl (r_pick_t rfl rfl) rfl (fun _ h => h) ?_
    | refine x_tk rfl (r_pick_f rfl rfl) rfl (fun _ h => h) ?_
    | refine x_tk rfl (r_fieldAddr (by assumption) rfl) rfl (fun _ h => h) ?_
    | refine x_tk rfl (by first | exact r_own_add (i := 0) (by assumption) rfl rfl rfl | exact r_own_add (i := 1) (by assumption) rfl rfl rfl | exact r_own_add (i := 2) (by assumption) rfl rfl rfl | exact r_own_add (i := 3) (by assumption) rfl rfl rfl | exact r_own_add (i := 4) (by assumption) rfl rfl rfl | exact r_own_add (i := 5) (by assumption) rfl rfl rfl | exact r_own (i := 0) (by assumption) rfl rfl rfl | exact r_own (i := 1) (by assumption) rfl rfl rfl | exact r_own (i := 2) (by assumption) rfl rfl rfl | exact r_own (i := 3) (by assumption) rfl rfl rfl | exact r_own (i := 4) (by assumption) rfl rfl rfl | exact r_own (i := 5) (by assumption) rfl rfl rfl) rfl (fun _ h => h) ?_
    | refine x_tk rfl (r_len_string (by assumption) rfl) rfl (fun _ h => h) ?_
    | refine x_tk rfl (r_len_slice (by assumption) rfl) rfl (fun _ h => h) ?_
    | refine x_tk rfl (r_cap_slice (by assumption) rfl) rfl (fun _ h => h) ?_
    | refine x_tk rfl (r_not rfl rfl) rfl (fun _ h => h) ?_
    | refine x_tk rfl (r_add rfl rfl ⟨by omega, by omega⟩) rfl (fun _ h => h) ?_
    | refine x_tk rfl (r_sub rfl rfl ⟨by omega, by omega⟩) rfl (fun _ h => h) ?_
    | refine x_tk rfl (r_build (by assumption) (by assumption) rfl rfl) rfl (fun _ h => h) ?_
    | refine x_tk rfl (r_nilCheck rfl) rfl (fun _ h => h) ?_
    | refine x_tk rfl (r_lss (r := true) rfl rfl (decide_eq_true (by omega))) rfl (fun _ h => h) ?_
    | refine x_tk rfl (r_lss (r := false) rfl rfl (decide_eq_false (by omega))) rfl (fun _ h => h) ?_
    | refine x_tk rfl (r_leq (r := true) rfl rfl (decide_eq_true (by omega))) rfl (fun _ h => h) ?_
    | refine x_tk rfl (r_leq (r := false) rfl rfl (decide_eq_false (by omega))) rfl (fun _ h => h) ?_
    | refine x_tk rfl (r_gtr (r := true) rfl rfl (decide_eq_true (by omega))) rfl (fun _ h => h) ?_
    | refine x_tk rfl (r_gtr (r := false) rfl rfl (decide_eq_false (by omega))) rfl (fun _ h => h) ?_
    | refine x_tk rfl (r_geq (r := true) rfl rfl (decide_eq_true (by omega))) rfl (fun _ h => h) ?_
    | refine x_tk rfl (r_geq (r := false) rfl rfl (decide_eq_false (by omega))) rfl (fun _ h => h) ?_
    | refine x_tk rfl (r_eql (r := true) rfl rfl (decide_eq_true (by omega))) rfl (fun _ h => h) ?_
    | refine x_tk rfl (r_eql (r := false) rfl rfl (decide_eq_false (by omega))) rfl (fun _ h => h) ?_
    | refine x_tk rfl (r_neq (r := true) rfl rfl (decide_eq_true (by omega))) rfl (fun _ h => h) ?_
    | refine x_tk rfl (r_neq (r := false) rfl rfl (decide_eq_false (by omega))) rfl (fun _ h => h) ?_
    | refine x_tk rfl (by first | exact r_ownN (i := 0) (by assumption) rfl rfl rfl | exact r_ownN (i := 1) (by assumption) rfl rfl rfl | exact r_ownN (i := 2) (by assumption) rfl rfl rfl | exact r_ownN (i := 3) (by assumption) rfl rfl rfl | exact r_ownN (i := 4) (by assumption) rfl rfl rfl | exact r_ownN (i := 5) (by assumption) rfl rfl rfl) rfl (fun _ h => h) ?_)
          refine x_tk rfl (r_indexAddr u22 i36 rfl rfl ⟨by omega, by omega⟩) rfl (fun _ h => h) ?_
          repeat (first
    | refine x_tend ?_ | refine x_tkoff rfl rfl (fun _ h => h) ?_
    | refine x_tk rfl (r_move rfl) rfl (fun _ h => h) ?_
    | refine x_tk rfl (r_assign rfl) rfl (fun _ h => h) ?_
    | refine x_tk rfl (r_extract rfl rfl) rfl (fun _ h => h) ?_
    | refine x_tk rfl (r_pick_t rfl rfl) rfl (fun _ h => h) ?_
    | refine x_tk rfl (r_pick_f rfl rfl) rfl (fun _ h => h) ?_
    | refine x_tk rfl (r_fieldAddr (by assumption) rfl) rfl (fun _ h => h) ?_
    | refine x_tk rfl (by first | exact r_own_add (i := 0) (by assumption) rfl rfl rfl | exact r_own_add (i := 1) (by assumption) rfl rfl rfl | exact r_own_add (i := 2) (by assumption) rfl rfl rfl | exact r_own_add (i := 3) (by assumption) rfl rfl rfl | exact r_own_add (i := 4) (by assumption) rfl rfl rfl | exact r_own_add (i := 5) (by assumption) rfl rfl rfl | exact r_own (i := 0) (by assumption) rfl rfl rfl | exact r_own (i := 1) (by assumption) rfl rfl rfl | exact r_own (i := 2) (by assumption) rfl rfl rfl | exact r_own (i := 3) (by assumption) rfl rfl rfl | exact r_own (i := 4) (by assumption) rfl rfl rfl | exact r_own (i := 5) (by assumption) rfl rfl rfl) rfl (fun _ h => h) ?_
    | refine x_tk rfl (r_len_string (by assumption) rfl) rfl (fun _ h => h) ?_
    | refine x_tk rfl (r_len_slice (by assumption) rfl) rfl (fun _ h => h) ?_
    | refine x_tk rfl (r_cap_slice (by assumption) rfl) rfl (fun _ h => h) ?_
    | refine x_tk rfl (r_not rfl rfl) rfl (fun _ h => h) ?_
    | refine x_tk rfl (r_add rfl rfl ⟨by omega, by omega⟩) rfl (fun _ h => h) ?_
    | refine x_tk rfl (r_sub rfl rfl ⟨by omega, by omega⟩) rfl (fun _ h => h) ?_
    | refine x_tk rfl (r_build (by assumption) (by assumption) rfl rfl) rfl (fun _ h => h) ?_
    | refine x_tk rfl (r_nilCheck rfl) rfl (fun _ h => h) ?_
    | refine x_tk rfl (r_lss (r := true) rfl rfl (decide_eq_true (by omega))) rfl (fun _ h => h) ?_
    | refine x_tk rfl (r_lss (r := false) rfl rfl (decide_eq_false (by omega))) rfl (fun _ h => h) ?_
    | refine x_tk rfl (r_leq (r := true) rfl rfl (decide_eq_true (by omega))) rfl (fun _ h => h) ?_
    | refine x_tk rfl (r_leq (r := false) rfl rfl (decide_eq_false (by omega))) rfl (fun _ h => h) ?_
    | refine x_tk rfl (r_gtr (r := true) rfl rfl (decide_eq_true (by omega))) rfl (fun _ h => h) ?_
    | refine x_tk rfl (r_gtr (r := false) rfl rfl (decide_eq_false (by omega))) rfl (fun _ h => h) ?_
    | refine x_tk rfl (r_geq (r := true) rfl rfl (decide_eq_true (by omega))) rfl (fun _ h => h) ?_
    | refine x_tk rfl (r_geq (r := false) rfl rfl (decide_eq_false (by omega))) rfl (fun _ h => h) ?_
    | refine x_tk rfl (r_eql (r := true) rfl rfl (decide_eq_true (by omega))) rfl (fun _ h => h) ?_
    | refine x_tk rfl (r_eql (r := false) rfl rfl (decide_eq_false (by omega))) rfl (fun _ h => h) ?_
    | refine x_tk rfl (r_neq (r := true) rfl rfl (decide_eq_true (by omega))) rfl (fun _ h => h) ?_
    | refine x_tk rfl (r_neq (r := false) rfl rfl (decide_eq_false (by omega))) rfl (fun _ h => h) ?_
    | refine x_tk rfl (by first | exact r_ownN (i := 0) (by assumption) rfl rfl rfl | exact r_ownN (i := 1) (by assumption) rfl rfl rfl | exact r_ownN (i := 2) (by assumption) rfl rfl rfl | exact r_ownN (i := 3) (by assumption) rfl rfl rfl | exact r_ownN (i := 4) (by assumption) rfl rfl rfl | exact r_ownN (i := 5) (by assumption) rfl rfl rfl) rfl (fun _ h => h) ?_)
          refine x_tk rfl (r_old z9 rfl (by rw [hk1]; exact pair_ hr hq 0 _ rfl) (by simp)) rfl (fun _ h => h) ?_
          refine x_tk rfl (r_leq_string rfl rfl rfl) rfl (fun _ h => h) (x_bool (fun hb => ?_) (fun hb => ?_))
          · have hR := hbad (by simp [cellOk, keyOk, hpv, hb])
            repeat (first
    | refine x_tend ?_ | refine x_tkoff rfl rfl (fun _ h => h) ?_
    | refine x_tk rfl (r_move rfl) rfl (fun _ h => h) ?_
    | refine x_tk rfl (r_assign rfl) rfl (fun _ h => h) ?_
    | refine x_tk rfl (r_extract rfl rfl) rfl (fun _ h => h) ?_
    | refine x_tk rfl (r_pick_t rfl rfl) rfl (fun _ h => h) ?_
    | refine x_tk rfl (r_pick_f rfl rfl) rfl (fun _ h => h) ?_
    | refine x_tk rfl (r_fieldAddr (by assumption) rfl) rfl (fun _ h => h) ?_
    | refine x_tk rfl (by first | exact r_own_add (i := 0) (by assumption) rfl rfl rfl | exact r_own_add (i := 1) (by assumption) rfl rfl rfl | exact r_own_add (i := 2) (by assumption) rfl rfl rfl | exact r_own_add (i := 3) (by assumption) rfl rfl rfl | exact r_own_add (i := 4) (by assumption) rfl rfl rfl | exact r_own_add (i := 5) (by assumption) rfl rfl rfl | exact r_own (i := 0) (by assumption) rfl rfl rfl | exact r_own (i := 1) (by assumption) rfl rfl rfl | exact r_own (i := 2) (by assumption) rfl rfl rfl | exact r_own (i := 3) (by assumption) rfl rfl rfl | exact r_own (i := 4) (by assumption) rfl rfl rfl | exact r_own (i := 5) (by assumption) rfl rfl rfl) rfl (fun _ h => h) ?_
    | refine x_tk rfl (r_len_string (by assumption) rfl) rfl (fun _ h => h) ?_
    | refine x_tk rfl (r_len_slice (by assumption) rfl) rfl (fun _ h => h) ?_
    | refine x_tk rfl (r_cap_slice (by assumption) rfl) rfl (fun _ h => h) ?_
    | refine x_tk rfl (r_not rfl rfl) rfl (fun _ h => h) ?_
    | refine x_tk rfl (r_add rfl rfl ⟨by omega, by omega⟩) rfl (fun _ h => h) ?_
    | refine x_tk rfl (r_sub rfl rfl ⟨by omega, by omega⟩) rfl (fun _ h => h) ?_
    | refine x_tk rfl (r_build (by assumption) (by assumption) rfl rfl) rfl (fun _ h => h) ?_
    | refine x_tk rfl (r_nilCheck rfl) rfl (fun _ h => h) ?_
    | refine x_tk rfl (r_lss (r := true) rfl rfl (decide_eq_true (by omega))) rfl (fun _ h => h) ?_
    | refine x_tk rfl (r_lss (r := false) rfl rfl (decide_eq_false (by omega))) rfl (fun _ h => h) ?_
    | refine x_tk rfl (r_leq (r := true) rfl rfl (decide_eq_true (by omega))) rfl (fun _ h => h) ?_
    | refine x_tk rfl (r_leq (r := false) rfl rfl (decide_eq_false (by omega))) rfl (fun _ h => h) ?_
    | refine x_tk rfl (r_gtr (r := true) rfl rfl (decide_eq_true (by omega))) rfl (fun _ h => h) ?_
    | refine x_tk rfl (r_gtr (r := false) rfl rfl (decide_eq_false (by omega))) rfl (fun _ h => h) ?_
    | refine x_tk rfl (r_geq (r := true) rfl rfl (decide_eq_true (by omega))) rfl (fun _ h => h) ?_
    | refine x_tk rfl (r_geq (r := false) rfl rfl (decide_eq_false (by omega))) rfl (fun _ h => h) ?_
    | refine x_tk rfl (r_eql (r := true) rfl rfl (decide_eq_true (by omega))) rfl (fun _ h => h) ?_
    | refine x_tk rfl (r_eql (r := false) rfl rfl (decide_eq_false (by omega))) rfl (fun _ h => h) ?_
    | refine x_tk rfl (r_neq (r := true) rfl rfl (decide_eq_true (by omega))) rfl (fun _ h => h) ?_
    | refine x_tk rfl (r_neq (r := false) rfl rfl (decide_eq_false (by omega))) rfl (fun _ h => h) ?_
    | refine x_tk rfl (by first | exact r_ownN (i := 0) (by assumption) rfl rfl rfl | exact r_ownN (i := 1) (by assumption) rfl rfl rfl | exact r_ownN (i := 2) (by assumption) rfl rfl rfl | exact r_ownN (i := 3) (by assumption) rfl rfl rfl | exact r_ownN (i := 4) (by assumption) rfl rfl rfl | exact r_ownN (i := 5) (by assumption) rfl rfl rfl) rfl (fun _ h => h) ?_)
            repeat (first
    | refine x_seq ?_ | refine x_region ?_ | refine x_nil ?_ | refine x_block ?_ | refine x_skip ?_ | refine x_exit rfl ?_ | refine x_true rfl ?_ | refine x_false rfl ?_ | refine x_ret ?_ | refine x_tend ?_
    | refine x_off rfl rfl ?_ | refine x_off0 rfl ?_
    | refine x_op rfl (x_val (r_move rfl) rfl ?_)
    | refine x_op rfl (x_val (r_assign rfl) rfl ?_)
    | refine x_op rfl (x_val (r_extract rfl rfl) rfl ?_)
    | refine x_op rfl (x_val (r_pick_t rfl rfl) rfl ?_)
    | refine x_op rfl (x_val (r_pick_f rfl rfl) rfl ?_)
    | refine x_op rfl (x_val (r_fieldAddr (by assumption) rfl) rfl ?_)
    | refine x_op rfl (x_val (by first | exact r_own_add (i := 0) (by assumption) rfl rfl rfl | exact r_own_add (i := 1) (by assumption) rfl rfl rfl | exact r_own_add (i := 2) (by assumption) rfl rfl rfl | exact r_own_add (i := 3) (by assumption) rfl rfl rfl | exact r_own_add (i := 4) (by assumption) rfl rfl rfl | exact r_own_add (i := 5) (by assumption) rfl rfl rfl | exact r_own (i := 0) (by assumption) rfl rfl rfl | exact r_own (i := 1) (by assumption) rfl rfl rfl | exact r_own (i := 2) (by assumption) rfl rfl rfl | exact r_own (i := 3) (by assumption) rfl rfl rfl | exact r_own (i := 4) (by assumption) rfl rfl rfl | exact r_own (i := 5) (by assumption) rfl rfl rfl) rfl ?_)
    | refine x_op rfl (x_val (r_len_string (by assumption) rfl) rfl ?_)
    | refine x_op rfl (x_val (r_len_slice (by assumption) rfl) rfl ?_)
    | refine x_op rfl (x_val (r_cap_slice (by assumption) rfl) rfl ?_)
    | refine x_op rfl (x_val (r_not rfl rfl) rfl ?_)
    | refine x_op rfl (x_val (r_add rfl rfl ⟨by omega, by omega⟩) rfl ?_)
    | refine x_op rfl (x_val (r_sub rfl rfl ⟨by omega, by omega⟩) rfl ?_)
    | refine x_op rfl (x_val (r_build (by assumption) (by assumption) rfl rfl) rfl ?_)
    | refine x_op rfl (x_val (r_nilCheck rfl) rfl ?_)
    | refine x_op rfl (x_val (r_lss (r := true) rfl rfl (decide_eq_true (by omega))) rfl ?_)
    | refine x_op rfl (x_val (r_lss (r := false) rfl rfl (decide_eq_false (by omega))) rfl ?_)
    | refine x_op rfl (x_val (r_leq (r := true) rfl rfl (decide_eq_true (by omega))) rfl ?_)
    | refine x_op rfl (x_val (r_leq (r := false) rfl rfl (decide_eq_false (by omega))) rfl ?_)
    | refine x_op rfl (x_val (r_gtr (r := true) rfl rfl (decide_eq_true (by omega))) rfl ?_)
    | refine x_op rfl (x_val (r_gtr (r := false) rfl rfl (decide_eq_false (by omega))) rfl ?_)
    | refine x_op rfl (x_val (r_geq (r := true) rfl rfl (decide_eq_true (by omega))) rfl ?_)
    | refine x_op rfl (x_val (r_geq (r := false) rfl rfl (decide_eq_false (by omega))) rfl ?_)
    | refine x_op rfl (x_val (r_eql (r := true) rfl rfl (decide_eq_true (by omega))) rfl ?_)
    | refine x_op rfl (x_val (r_eql (r := false) rfl rfl (decide_eq_false (by omega))) rfl ?_)
    | refine x_op rfl (x_val (r_neq (r := true) rfl rfl (decide_eq_true (by omega))) rfl ?_)
    | refine x_op rfl (x_val (r_neq (r := false) rfl rfl (decide_eq_false (by omega))) rfl ?_)
    | refine x_op rfl (x_val (by first | exact r_ownN (i := 0) (by assumption) rfl rfl rfl | exact r_ownN (i := 1) (by assumption) rfl rfl rfl | exact r_ownN (i := 2) (by assumption) rfl rfl rfl | exact r_ownN (i := 3) (by assumption) rfl rfl rfl | exact r_ownN (i := 4) (by assumption) rfl rfl rfl | exact r_ownN (i := 5) (by assumption) rfl rfl rfl) rfl ?_)
    | refine x_op rfl (s_store (i := 0) (by assumption) rfl rfl rfl rfl rfl rfl ?_)
    | refine x_op rfl (s_store (i := 1) (by assumption) rfl rfl rfl rfl rfl rfl ?_)
    | refine x_op rfl (s_store (i := 2) (by assumption) rfl rfl rfl rfl rfl rfl ?_)
    | refine x_op rfl (s_store (i := 3) (by assumption) rfl rfl rfl rfl rfl rfl ?_)
    | refine x_op rfl (s_store (i := 4) (by assumption) rfl rfl rfl rfl rfl rfl ?_)
    | refine x_op rfl (s_store (i := 5) (by assumption) rfl rfl rfl rfl rfl rfl ?_)
    | refine x_op rfl (s_box rfl rfl fun b hb => ?_) | refine x_op rfl (s_alloc (by assumption) rfl fun b hb => ?_))
            exact x_ret1 rfl rfl fun w1 hO => ⟨_, rfl, by rw [hR], hO.none_⟩
          · repeat (first
    | refine x_tend ?_ | refine x_tkoff rfl rfl (fun _ h => h) ?_
    | refine x_tk rfl (r_move rfl) rfl (fun _ h => h) ?_
    | refine x_tk rfl (r_assign rfl) rfl (fun _ h => h) ?_
    | refine x_tk rfl (r_extract rfl rfl) rfl (fun _ h => h) ?_
    | refine x_tk rfl (r_pick_t rfl rfl) rfl (fun _ h => h) ?_
    | refine x_tk rfl (r_pick_f rfl rfl) rfl (fun _ h => h) ?_
    | refine x_tk rfl (r_fieldAddr (by assumption) rfl) rfl (fun _ h => h) ?_
    | refine x_tk rfl (by first | exact r_own_add (i := 0) (by assumption) rfl rfl rfl | exact r_own_add (i := 1) (by assumption) rfl rfl rfl | exact r_own_add (i := 2) (by assumption) rfl rfl rfl | exact r_own_add (i := 3) (by assumption) rfl rfl rfl | exact r_own_add (i := 4) (by assumption) rfl rfl rfl | exact r_own_add (i := 5) (by assumption) rfl rfl rfl | exact r_own (i := 0) (by assumption) rfl rfl rfl | exact r_own (i := 1) (by assumption) rfl rfl rfl | exact r_own (i := 2) (by assumption) rfl rfl rfl | exact r_own (i := 3) (by assumption) rfl rfl rfl | exact r_own (i := 4) (by assumption) rfl rfl rfl | exact r_own (i := 5) (by assumption) rfl rfl rfl) rfl (fun _ h => h) ?_
    | refine x_tk rfl (r_len_string (by assumption) rfl) rfl (fun _ h => h) ?_
    | refine x_tk rfl (r_len_slice (by assumption) rfl) rfl (fun _ h => h) ?_
    | refine x_tk rfl (r_cap_slice (by assumption) rfl) rfl (fun _ h => h) ?_
    | refine x_tk rfl (r_not rfl rfl) rfl (fun _ h => h) ?_
    | refine x_tk rfl (r_add rfl rfl ⟨by omega, by omega⟩) rfl (fun _ h => h) ?_
    | refine x_tk rfl (r_sub rfl rfl ⟨by omega, by omega⟩) rfl (fun _ h => h) ?_
    | refine x_tk rfl (r_build (by assumption) (by assumption) rfl rfl) rfl (fun _ h => h) ?_
    | refine x_tk rfl (r_nilCheck rfl) rfl (fun _ h => h) ?_
    | refine x_tk rfl (r_lss (r := true) rfl rfl (decide_eq_true (by omega))) rfl (fun _ h => h) ?_
    | refine x_tk rfl (r_lss (r := false) rfl rfl (decide_eq_false (by omega))) rfl (fun _ h => h) ?_
    | refine x_tk rfl (r_leq (r := true) rfl rfl (decide_eq_true (by omega))) rfl (fun _ h => h) ?_
    | refine x_tk rfl (r_leq (r := false) rfl rfl (decide_eq_false (by omega))) rfl (fun _ h => h) ?_
    | refine x_tk rfl (r_gtr (r := true) rfl rfl (decide_eq_true (by omega))) rfl (fun _ h => h) ?_
    | refine x_tk rfl (r_gtr (r := false) rfl rfl (decide_eq_false (by omega))) rfl (fun _ h => h) ?_
    | refine x_tk rfl (r_geq (r := true) rfl rfl (decide_eq_true (by omega))) rfl (fun _ h => h) ?_
    | refine x_tk rfl (r_geq (r := false) rfl rfl (decide_eq_false (by omega))) rfl (fun _ h => h) ?_
    | refine x_tk rfl (r_eql (r := true) rfl rfl (decide_eq_true (by omega))) rfl (fun _ h => h) ?_
    | refine x_tk rfl (r_eql (r := false) rfl rfl (decide_eq_false (by omega))) rfl (fun _ h => h) ?_
    | refine x_tk rfl (r_neq (r := true) rfl rfl (decide_eq_true (by omega))) rfl (fun _ h => h) ?_
    | refine x_tk rfl (r_neq (r := false) rfl rfl (decide_eq_false (by omega))) rfl (fun _ h => h) ?_
    | refine x_tk rfl (by first | exact r_ownN (i := 0) (by assumption) rfl rfl rfl | exact r_ownN (i := 1) (by assumption) rfl rfl rfl | exact r_ownN (i := 2) (by assumption) rfl rfl rfl | exact r_ownN (i := 3) (by assumption) rfl rfl rfl | exact r_ownN (i := 4) (by assumption) rfl rfl rfl | exact r_ownN (i := 5) (by assumption) rfl rfl rfl) rfl (fun _ h => h) ?_)
            repeat (first
    | refine x_seq ?_ | refine x_region ?_ | refine x_nil ?_ | refine x_block ?_ | refine x_skip ?_ | refine x_exit rfl ?_ | refine x_true rfl ?_ | refine x_false rfl ?_ | refine x_ret ?_ | refine x_tend ?_
    | refine x_off rfl rfl ?_ | refine x_off0 rfl ?_
    | refine x_op rfl (x_val (r_move rfl) rfl ?_)
    | refine x_op rfl (x_val (r_assign rfl) rfl ?_)
    | refine x_op rfl (x_val (r_extract rfl rfl) rfl ?_)
    | refine x_op rfl (x_val (r_pick_t rfl rfl) rfl ?_)
    | refine x_op rfl (x_val (r_pick_f rfl rfl) rfl ?_)
    | refine x_op rfl (x_val (r_fieldAddr (by assumption) rfl) rfl ?_)
    | refine x_op rfl (x_val (by first | exact r_own_add (i := 0) (by assumption) rfl rfl rfl | exact r_own_add (i := 1) (by assumption) rfl rfl rfl | exact r_own_add (i := 2) (by assumption) rfl rfl rfl | exact r_own_add (i := 3) (by assumption) rfl rfl rfl | exact r_own_add (i := 4) (by assumption) rfl rfl rfl | exact r_own_add (i := 5) (by assumption) rfl rfl rfl | exact r_own (i := 0) (by assumption) rfl rfl rfl | exact r_own (i := 1) (by assumption) rfl rfl rfl | exact r_own (i := 2) (by assumption) rfl rfl rfl | exact r_own (i := 3) (by assumption) rfl rfl rfl | exact r_own (i := 4) (by assumption) rfl rfl rfl | exact r_own (i := 5) (by assumption) rfl rfl rfl) rfl ?_)
    | refine x_op rfl (x_val (r_len_string (by assumption) rfl) rfl ?_)
    | refine x_op rfl (x_val (r_len_slice (by assumption) rfl) rfl ?_)
    | refine x_op rfl (x_val (r_cap_slice (by assumption) rfl) rfl ?_)
    | refine x_op rfl (x_val (r_not rfl rfl) rfl ?_)
    | refine x_op rfl (x_val (r_add rfl rfl ⟨by omega, by omega⟩) rfl ?_)
    | refine x_op rfl (x_val (r_sub rfl rfl ⟨by omega, by omega⟩) rfl ?_)
    | refine x_op rfl (x_val (r_build (by assumption) (by assumption) rfl rfl) rfl ?_)
    | refine x_op rfl (x_val (r_nilCheck rfl) rfl ?_)
    | refine x_op rfl (x_val (r_lss (r := true) rfl rfl (decide_eq_true (by omega))) rfl ?_)
    | refine x_op rfl (x_val (r_lss (r := false) rfl rfl (decide_eq_false (by omega))) rfl ?_)
    | refine x_op rfl (x_val (r_leq (r := true) rfl rfl (decide_eq_true (by omega))) rfl ?_)
    | refine x_op rfl (x_val (r_leq (r := false) rfl rfl (decide_eq_false (by omega))) rfl ?_)
    | refine x_op rfl (x_val (r_gtr (r := true) rfl rfl (decide_eq_true (by omega))) rfl ?_)
    | refine x_op rfl (x_val (r_gtr (r := false) rfl rfl (decide_eq_false (by omega))) rfl ?_)
    | refine x_op rfl (x_val (r_geq (r := true) rfl rfl (decide_eq_true (by omega))) rfl ?_)
    | refine x_op rfl (x_val (r_geq (r := false) rfl rfl (decide_eq_false (by omega))) rfl ?_)
    | refine x_op rfl (x_val (r_eql (r := true) rfl rfl (decide_eq_true (by omega))) rfl ?_)
    | refine x_op rfl (x_val (r_eql (r := false) rfl rfl (decide_eq_false (by omega))) rfl ?_)
    | refine x_op rfl (x_val (r_neq (r := true) rfl rfl (decide_eq_true (by omega))) rfl ?_)
    | refine x_op rfl (x_val (r_neq (r := false) rfl rfl (decide_eq_false (by omega))) rfl ?_)
    | refine x_op rfl (x_val (by first | exact r_ownN (i := 0) (by assumption) rfl rfl rfl | exact r_ownN (i := 1) (by assumption) rfl rfl rfl | exact r_ownN (i := 2) (by assumption) rfl rfl rfl | exact r_ownN (i := 3) (by assumption) rfl rfl rfl | exact r_ownN (i := 4) (by assumption) rfl rfl rfl | exact r_ownN (i := 5) (by assumption) rfl rfl rfl) rfl ?_)
    | refine x_op rfl (s_store (i := 0) (by assumption) rfl rfl rfl rfl rfl rfl ?_)
    | refine x_op rfl (s_store (i := 1) (by assumption) rfl rfl rfl rfl rfl rfl ?_)
    | refine x_op rfl (s_store (i := 2) (by assumption) rfl rfl rfl rfl rfl rfl ?_)
    | refine x_op rfl (s_store (i := 3) (by assumption) rfl rfl rfl rfl rfl rfl ?_)
    | refine x_op rfl (s_store (i := 4) (by assumption) rfl rfl rfl rfl rfl rfl ?_)
    | refine x_op rfl (s_store (i := 5) (by assumption) rfl rfl rfl rfl rfl rfl ?_)
    | refine x_op rfl (s_box rfl rfl fun b hb => ?_) | refine x_op rfl (s_alloc (by assumption) rfl fun b hb => ?_))
            exact x_there () ⟨rfl, rfl, rfl, rfl, rfl, trivial⟩ (fun _ h => h) (by rw [hpv]; simp [keyOk, hne, h32, hb])
        · have hk0 : k = 0 := by omega
          have hpv : prevOf ps k = none := by simp [prevOf, hk0]
          repeat (first
    | refine x_tend ?_ | refine x_tkoff rfl rfl (fun _ h => h) ?_
    | refine x_tk rfl (r_move rfl) rfl (fun _ h => h) ?_
    | refine x_tk rfl (r_assign rfl) rfl (fun _ h => h) ?_
    | refine x_tk rfl (r_extract rfl rfl) rfl (fun _ h => h) ?_
    | refine x_tk rfl (r_pick_t rfl rfl) rfl (fun _ h => h) ?_
    | refine x_tk rfl (r_pick_f rfl rfl) rfl (fun _ h => h) ?_
    | refine x_tk rfl (r_fieldAddr (by assumption) rfl) rfl (fun _ h => h) ?_
    | refine x_tk rfl (by first | exact r_own_add (i := 0) (by assumption) rfl rfl rfl | exact r_own_add (i := 1) (by assumption) rfl rfl rfl | exact r_own_add (i := 2) (by assumption) rfl rfl rfl | exact r_own_add (i := 3) (by assumption) rfl rfl rfl | exact r_own_add (i := 4) (by assumption) rfl rfl rfl | exact r_own_add (i := 5) (by assumption) rfl rfl rfl | exact r_own (i := 0) (by assumption) rfl rfl rfl | exact r_own (i := 1) (by assumption) rfl rfl rfl | exact r_own (i := 2) (by assumption) rfl rfl rfl | exact r_own (i := 3) (by assumption) rfl rfl rfl | exact r_own (i := 4) (by assumption) rfl rfl rfl | exact r_own (i := 5) (by assumption) rfl rfl rfl) rfl (fun _ h => h) ?_
    | refine x_tk rfl (r_len_string (by assumption) rfl) rfl (fun _ h => h) ?_
    | refine x_tk rfl (r_len_slice (by assumption) rfl) rfl (fun _ h => h) ?_
    | refine x_tk rfl (r_cap_slice (by assumption) rfl) rfl (fun _ h => h) ?_
    | refine x_tk rfl (r_not rfl rfl) rfl (fun _ h => h) ?_
    | refine x_tk rfl (r_add rfl rfl ⟨by omega, by omega⟩) rfl (fun _ h => h) ?_
    | refine x_tk rfl (r_sub rfl rfl ⟨by omega, by omega⟩) rfl (fun _ h => h) ?_
    | refine x_tk rfl (r_build (by assumption) (by assumption) rfl rfl) rfl (fun _ h => h) ?_
    | refine x_tk rfl (r_nilCheck rfl) rfl (fun _ h => h) ?_
    | refine x_tk rfl (r_lss (r := true) rfl rfl (decide_eq_true (by omega))) rfl (fun _ h => h) ?_
    | refine x_tk rfl (r_lss (r := false) rfl rfl (decide_eq_false (by omega))) rfl (fun _ h => h) ?_
    | refine x_tk rfl (r_leq (r := true) rfl rfl (decide_eq_true (by omega))) rfl (fun _ h => h) ?_
    | refine x_tk rfl (r_leq (r := false) rfl rfl (decide_eq_false (by omega))) rfl (fun _ h => h) ?_
    | refine x_tk rfl (r_gtr (r := true) rfl rfl (decide_eq_true (by omega))) rfl (fun _ h => h) ?_
    | refine x_tk rfl (r_gtr (r := false) rfl rfl (decide_eq_false (by omega))) rfl (fun _ h => h) ?_
    | refine x_tk rfl (r_geq (r := true) rfl rfl (decide_eq_true (by omega))) rfl (fun _ h => h) ?_
    | refine x_tk rfl (r_geq (r := false) rfl rfl (decide_eq_false (by omega))) rfl (fun _ h => h) ?_
    | refine x_tk rfl (r_eql (r := true) rfl rfl (decide_eq_true (by omega))) rfl (fun _ h => h) ?_
    | refine x_tk rfl (r_eql (r := false) rfl rfl (decide_eq_false (by omega))) rfl (fun _ h => h) ?_
    | refine x_tk rfl (r_neq (r := true) rfl rfl (decide_eq_true (by omega))) rfl (fun _ h => h) ?_
    | refine x_tk rfl (r_neq (r := false) rfl rfl (decide_eq_false (by omega))) rfl (fun _ h => h) ?_
    | refine x_tk rfl (by first | exact r_ownN (i := 0) (by assumption) rfl rfl rfl | exact r_ownN (i := 1) (by assumption) rfl rfl rfl | exact r_ownN (i := 2) (by assumption) rfl rfl rfl | exact r_ownN (i := 3) (by assumption) rfl rfl rfl | exact r_ownN (i := 4) (by assumption) rfl rfl rfl | exact r_ownN (i := 5) (by assumption) rfl rfl rfl) rfl (fun _ h => h) ?_)
          repeat (first
    | refine x_seq ?_ | refine x_region ?_ | refine x_nil ?_ | refine x_block ?_ | refine x_skip ?_ | refine x_exit rfl ?_ | refine x_true rfl ?_ | refine x_false rfl ?_ | refine x_ret ?_ | refine x_tend ?_
    | refine x_off rfl rfl ?_ | refine x_off0 rfl ?_
    | refine x_op rfl (x_val (r_move rfl) rfl ?_)
    | refine x_op rfl (x_val (r_assign rfl) rfl ?_)
    | refine x_op rfl (x_val (r_extract rfl rfl) rfl ?_)
    | refine x_op rfl (x_val (r_pick_t rfl rfl) rfl ?_)
    | refine x_op rfl (x_val (r_pick_f rfl rfl) rfl ?_)
    | refine x_op rfl (x_val (r_fieldAddr (by assumption) rfl) rfl ?_)
    | refine x_op rfl (x_val (by first | exact r_own_add (i := 0) (by assumption) rfl rfl rfl | exact r_own_add (i := 1) (by assumption) rfl rfl rfl | exact r_own_add (i := 2) (by assumption) rfl rfl rfl | exact r_own_add (i := 3) (by assumption) rfl rfl rfl | exact r_own_add (i := 4) (by assumption) rfl rfl rfl | exact r_own_add (i := 5) (by assumption) rfl rfl rfl | exact r_own (i := 0) (by assumption) rfl rfl rfl | exact r_own (i := 1) (by assumption) rfl rfl rfl | exact r_own (i := 2) (by assumption) rfl rfl rfl | exact r_own (i := 3) (by assumption) rfl rfl rfl | exact r_own (i := 4) (by assumption) rfl rfl rfl | exact r_own (i := 5) (by assumption) rfl rfl rfl) rfl ?_)
    | refine x_op rfl (x_val (r_len_string (by assumption) rfl) rfl ?_)
    | refine x_op rfl (x_val (r_len_slice (by assumption) rfl) rfl ?_)
    | refine x_op rfl (x_val (r_cap_slice (by assumption) rfl) rfl ?_)
    | refine x_op rfl (x_val (r_not rfl rfl) rfl ?_)
    | refine x_op rfl (x_val (r_add rfl rfl ⟨by omega, by omega⟩) rfl ?_)
    | refine x_op rfl (x_val (r_sub rfl rfl ⟨by omega, by omega⟩) rfl ?_)
    | refine x_op rfl (x_val (r_build (by assumption) (by assumption) rfl rfl) rfl ?_)
    | refine x_op rfl (x_val (r_nilCheck rfl) rfl ?_)
    | refine x_op rfl (x_val (r_lss (r := true) rfl rfl (decide_eq_true (by omega))) rfl ?_)
    | refine x_op rfl (x_val (r_lss (r := false) rfl rfl (decide_eq_false (by omega))) rfl ?_)
    | refine x_op rfl (x_val (r_leq (r := true) rfl rfl (decide_eq_true (by omega))) rfl ?_)
    | refine x_op rfl (x_val (r_leq (r := false) rfl rfl (decide_eq_false (by omega))) rfl ?_)
    | refine x_op rfl (x_val (r_gtr (r := true) rfl rfl (decide_eq_true (by omega))) rfl ?_)
    | refine x_op rfl (x_val (r_gtr (r := false) rfl rfl (decide_eq_false (by omega))) rfl ?_)
    | refine x_op rfl (x_val (r_geq (r := true) rfl rfl (decide_eq_true (by omega))) rfl ?_)
    | refine x_op rfl (x_val (r_geq (r := false) rfl rfl (decide_eq_false (by omega))) rfl ?_)
    | refine x_op rfl (x_val (r_eql (r := true) rfl rfl (decide_eq_true (by omega))) rfl ?_)
    | refine x_op rfl (x_val (r_eql (r := false) rfl rfl (decide_eq_false (by omega))) rfl ?_)
    | refine x_op rfl (x_val (r_neq (r := true) rfl rfl (decide_eq_true (by omega))) rfl ?_)
    | refine x_op rfl (x_val (r_neq (r := false) rfl rfl (decide_eq_false (by omega))) rfl ?_)
    | refine x_op rfl (x_val (by first | exact r_ownN (i := 0) (by assumption) rfl rfl rfl | exact r_ownN (i := 1) (by assumption) rfl rfl rfl | exact r_ownN (i := 2) (by assumption) rfl rfl rfl | exact r_ownN (i := 3) (by assumption) rfl rfl rfl | exact r_ownN (i := 4) (by assumption) rfl rfl rfl | exact r_ownN (i := 5) (by assumption) rfl rfl rfl) rfl ?_)
    | refine x_op rfl (s_store (i := 0) (by assumption) rfl rfl rfl rfl rfl rfl ?_)
    | refine x_op rfl (s_store (i := 1) (by assumption) rfl rfl rfl rfl rfl rfl ?_)
    | refine x_op rfl (s_store (i := 2) (by assumption) rfl rfl rfl rfl rfl rfl ?_)
    | refine x_op rfl (s_store (i := 3) (by assumption) rfl rfl rfl rfl rfl rfl ?_)
    | refine x_op rfl (s_store (i := 4) (by assumption) rfl rfl rfl rfl rfl rfl ?_)
    | refine x_op rfl (s_store (i := 5) (by assumption) rfl rfl rfl rfl rfl rfl ?_)
    | refine x_op rfl (s_box rfl rfl fun b hb => ?_) | refine x_op rfl (s_alloc (by assumption) rfl fun b hb => ?_))
          exact x_there () ⟨rfl, rfl, rfl, rfl, rfl, trivial⟩ (fun _ h => h) (by rw [hpv]; simp [keyOk, hne, h32])
      · have hstep : valOk br p = true → rightL br none ps = rightL br (prevOf ps (k + 1)) (ps.drop (k + 1)) := fun h => by rw [hI, rightL_step hc, cellOk, hgood, h]; rfl
        have hbad' : valOk br p = false → rightB br first ps = false := fun h => hbad (by rw [cellOk, h, Bool.and_false])
        clear hgood hbad hb
        cases br
        · repeat (first
    | refine x_seq ?_ | refine x_region ?_ | refine x_nil ?_ | refine x_block ?_ | refine x_skip ?_ | refine x_exit rfl ?_ | refine x_true rfl ?_ | refine x_false rfl ?_ | refine x_ret ?_ | refine x_tend ?_
    | refine x_off rfl rfl ?_ | refine x_off0 rfl ?_
    | refine x_op rfl (x_val (r_move rfl) rfl ?_)
    | refine x_op rfl (x_val (r_assign rfl) rfl ?_)
    | refine x_op rfl (x_val (r_extract rfl rfl) rfl ?_)
    | refine x_op rfl (x_val (r_pick_t rfl rfl) rfl ?_)
    | refine x_op rfl (x_val (r_pick_f rfl rfl) rfl ?_)
    | refine x_op rfl (x_val (r_fieldAddr (by assumption) rfl) rfl ?_)
    | refine x_op rfl (x_val (by first | exact r_own_add (i := 0) (by assumption) rfl rfl rfl | exact r_own_add (i := 1) (by assumption) rfl rfl rfl | exact r_own_add (i := 2) (by assumption) rfl rfl rfl | exact r_own_add (i := 3) (by assumption) rfl rfl rfl | exact r_own_add (i := 4) (by assumption) rfl rfl rfl | exact r_own_add (i := 5) (by assumption) rfl rfl rfl | exact r_own (i := 0) (by assumption) rfl rfl rfl | exact r_own (i := 1) (by assumption) rfl rfl rfl | exact r_own (i := 2) (by assumption) rfl rfl rfl | exact r_own (i := 3) (by assumption) rfl rfl rfl | exact r_own (i := 4) (by assumption) rfl rfl rfl | exact r_own (i := 5) (by assumption) rfl rfl rfl) rfl ?_)
    | refine x_op rfl (x_val (r_len_string (by assumption) rfl) rfl ?_)
    | refine x_op rfl (x_val (r_len_slice (by assumption) rfl) rfl ?_)
    | refine x_op rfl (x_val (r_cap_slice (by assumption) rfl) rfl ?_)
    | refine x_op rfl (x_val (r_not rfl rfl) rfl ?_)
    | refine x_op rfl (x_val (r_add rfl rfl ⟨by omega, by omega⟩) rfl ?_)
    | refine x_op rfl (x_val (r_sub rfl rfl ⟨by omega, by omega⟩) rfl ?_)
    | refine x_op rfl (x_val (r_build (by assumption) (by assumption) rfl rfl) rfl ?_)
    | refine x_op rfl (x_val (r_nilCheck rfl) rfl ?_)
    | refine x_op rfl (x_val (r_lss (r := true) rfl rfl (decide_eq_true (by omega))) rfl ?_)
    | refine x_op rfl (x_val (r_lss (r := false) rfl rfl (decide_eq_false (by omega))) rfl ?_)
    | refine x_op rfl (x_val (r_leq (r := true) rfl rfl (decide_eq_true (by omega))) rfl ?_)
    | refine x_op rfl (x_val (r_leq (r := false) rfl rfl (decide_eq_false (by omega))) rfl ?_)
    | refine x_op rfl (x_val (r_gtr (r := true) rfl rfl (decide_eq_true (by omega))) rfl ?_)
    | refine x_op rfl (x_val (r_gtr (r := false) rfl rfl (decide_eq_false (by omega))) rfl ?_)
    | refine x_op rfl (x_val (r_geq (r := true) rfl rfl (decide_eq_true (by omega))) rfl ?_)
    | refine x_op rfl (x_val (r_geq (r := false) rfl rfl (decide_eq_false (by omega))) rfl ?_)
    | refine x_op rfl (x_val (r_eql (r := true) rfl rfl (decide_eq_true (by omega))) rfl ?_)
    | refine x_op rfl (x_val (r_eql (r := false) rfl rfl (decide_eq_false (by omega))) rfl ?_)
    | refine x_op rfl (x_val (r_neq (r := true) rfl rfl (decide_eq_true (by omega))) rfl ?_)
    | refine x_op rfl (x_val (r_neq (r := false) rfl rfl (decide_eq_false (by omega))) rfl ?_)
    | refine x_op rfl (x_val (by first | exact r_ownN (i := 0) (by assumption) rfl rfl rfl | exact r_ownN (i := 1) (by assumption) rfl rfl rfl | exact r_ownN (i := 2) (by assumption) rfl rfl rfl | exact r_ownN (i := 3) (by assumption) rfl rfl rfl | exact r_ownN (i := 4) (by assumption) rfl rfl rfl | exact r_ownN (i := 5) (by assumption) rfl rfl rfl) rfl ?_)
    | refine x_op rfl (s_store (i := 0) (by assumption) rfl rfl rfl rfl rfl rfl ?_)
    | refine x_op rfl (s_store (i := 1) (by assumption) rfl rfl rfl rfl rfl rfl ?_)
    | refine x_op rfl (s_store (i := 2) (by assumption) rfl rfl rfl rfl rfl rfl ?_)
    | refine x_op rfl (s_store (i := 3) (by assumption) rfl rfl rfl rfl rfl rfl ?_)
    | refine x_op rfl (s_store (i := 4) (by assumption) rfl rfl rfl rfl rfl rfl ?_)
    | refine x_op rfl (s_store (i := 5) (by assumption) rfl rfl rfl rfl rfl rfl ?_)
    | refine x_op rfl (s_box rfl rfl fun b hb => ?_) | refine x_op rfl (s_alloc (by assumption) rfl fun b hb => ?_))
          refine x_op rfl (x_val (r_gtr rfl rfl rfl) rfl (x_dec (fun hb => ?_) (fun hb => ?_)))
          · have hR := hbad' (by simp [valOk]; omega)
            repeat (first
    | refine x_seq ?_ | refine x_region ?_ | refine x_nil ?_ | refine x_block ?_ | refine x_skip ?_ | refine x_exit rfl ?_ | refine x_true rfl ?_ | refine x_false rfl ?_ | refine x_ret ?_ | refine x_tend ?_
    | refine x_off rfl rfl ?_ | refine x_off0 rfl ?_
    | refine x_op rfl (x_val (r_move rfl) rfl ?_)
    | refine x_op rfl (x_val (r_assign rfl) rfl ?_)
    | refine x_op rfl (x_val (r_extract rfl rfl) rfl ?_)
    | refine x_op rfl (x_val (r_pick_t rfl rfl) rfl ?_)
    | refine x_op rfl (x_val (r_pick_f rfl rfl) rfl ?_)
    | refine x_op rfl (x_val (r_fieldAddr (by assumption) rfl) rfl ?_)
    | refine x_op rfl (x_val (by first | exact r_own_add (i := 0) (by assumption) rfl rfl rfl | exact r_own_add (i := 1) (by assumption) rfl rfl rfl | exact r_own_add (i := 2) (by assumption) rfl rfl rfl | exact r_own_add (i := 3) (by assumption) rfl rfl rfl | exact r_own_add (i := 4) (by assumption) rfl rfl rfl | exact r_own_add (i := 5) (by assumption) rfl rfl rfl | exact r_own (i := 0) (by assumption) rfl rfl rfl | exact r_own (i := 1) (by assumption) rfl rfl rfl | exact r_own (i := 2) (by assumption) rfl rfl rfl | exact r_own (i := 3) (by assumption) rfl rfl rfl | exact r_own (i := 4) (by assumption) rfl rfl rfl | exact r_own (i := 5) (by assumption) rfl rfl rfl) rfl ?_)
    | refine x_op rfl (x_val (r_len_string (by assumption) rfl) rfl ?_)
    | refine x_op rfl (x_val (r_len_slice (by assumption) rfl) rfl ?_)
    | refine x_op rfl (x_val (r_cap_slice (by assumption) rfl) rfl ?_)
    | refine x_op rfl (x_val (r_not rfl rfl) rfl ?_)
    | refine x_op rfl (x_val (r_add rfl rfl ⟨by omega, by omega⟩) rfl ?_)
    | refine x_op rfl (x_val (r_sub rfl rfl ⟨by omega, by omega⟩) rfl ?_)
    | refine x_op rfl (x_val (r_build (by assumption) (by assumption) rfl rfl) rfl ?_)
    | refine x_op rfl (x_val (r_nilCheck rfl) rfl ?_)
    | refine x_op rfl (x_val (r_lss (r := true) rfl rfl (decide_eq_true (by omega))) rfl ?_)
    | refine x_op rfl (x_val (r_lss (r := false) rfl rfl (decide_eq_false (by omega))) rfl ?_)
    | refine x_op rfl (x_val (r_leq (r := true) rfl rfl (decide_eq_true (by omega))) rfl ?_)
    | refine x_op rfl (x_val (r_leq (r := false) rfl rfl (decide_eq_false (by omega))) rfl ?_)
    | refine x_op rfl (x_val (r_gtr (r := true) rfl rfl (decide_eq_true (by omega))) rfl ?_)
    | refine x_op rfl (x_val (r_gtr (r := false) rfl rfl (decide_eq_false (by omega))) rfl ?_)
    | refine x_op rfl (x_val (r_geq (r := true) rfl rfl (decide_eq_true (by omega))) rfl ?_)
    | refine x_op rfl (x_val (r_geq (r := false) rfl rfl (decide_eq_false (by omega))) rfl ?_)
    | refine x_op rfl (x_val (r_eql (r := true) rfl rfl (decide_eq_true (by omega))) rfl ?_)
    | refine x_op rfl (x_val (r_eql (r := false) rfl rfl (decide_eq_false (by omega))) rfl ?_)
    | refine x_op rfl (x_val (r_neq (r := true) rfl rfl (decide_eq_true (by omega))) rfl ?_)
    | refine x_op rfl (x_val (r_neq (r := false) rfl rfl (decide_eq_false (by omega))) rfl ?_)
    | refine x_op rfl (x_val (by first | exact r_ownN (i := 0) (by assumption) rfl rfl rfl | exact r_ownN (i := 1) (by assumption) rfl rfl rfl | exact r_ownN (i := 2) (by assumption) rfl rfl rfl | exact r_ownN (i := 3) (by assumption) rfl rfl rfl | exact r_ownN (i := 4) (by assumption) rfl rfl rfl | exact r_ownN (i := 5) (by assumption) rfl rfl rfl) rfl ?_)
    | refine x_op rfl (s_store (i := 0) (by assumption) rfl rfl rfl rfl rfl rfl ?_)
    | refine x_op rfl (s_store (i := 1) (by assumption) rfl rfl rfl rfl rfl rfl ?_)
    | refine x_op rfl (s_store (i := 2) (by assumption) rfl rfl rfl rfl rfl rfl ?_)
    | refine x_op rfl (s_store (i := 3) (by assumption) rfl rfl rfl rfl rfl rfl ?_)
    | refine x_op rfl (s_store (i := 4) (by assumption) rfl rfl rfl rfl rfl rfl ?_)
    | refine x_op rfl (s_store (i := 5) (by assumption) rfl rfl rfl rfl rfl rfl ?_)
    | refine x_op rfl (s_box rfl rfl fun b hb => ?_) | refine x_op rfl (s_alloc (by assumption) rfl fun b hb => ?_))
            exact x_ret1 rfl rfl fun w1 hO => ⟨_, rfl, by rw [hR], hO.none_⟩
          · repeat (first
    | refine x_seq ?_ | refine x_region ?_ | refine x_nil ?_ | refine x_block ?_ | refine x_skip ?_ | refine x_exit rfl ?_ | refine x_true rfl ?_ | refine x_false rfl ?_ | refine x_ret ?_ | refine x_tend ?_
    | refine x_off rfl rfl ?_ | refine x_off0 rfl ?_
    | refine x_op rfl (x_val (r_move rfl) rfl ?_)
    | refine x_op rfl (x_val (r_assign rfl) rfl ?_)
    | refine x_op rfl (x_val (r_extract rfl rfl) rfl ?_)
    | refine x_op rfl (x_val (r_pick_t rfl rfl) rfl ?_)
    | refine x_op rfl (x_val (r_pick_f rfl rfl) rfl ?_)
    | refine x_op rfl (x_val (r_fieldAddr (by assumption) rfl) rfl ?_)
    | refine x_op rfl (x_val (by first | exact r_own_add (i := 0) (by assumption) rfl rfl rfl | exact r_own_add (i := 1) (by assumption) rfl rfl rfl | exact r_own_add (i := 2) (by assumption) rfl rfl rfl | exact r_own_add (i := 3) (by assumption) rfl rfl rfl | exact r_own_add (i := 4) (by assumption) rfl rfl rfl | exact r_own_add (i := 5) (by assumption) rfl rfl rfl | exact r_own (i := 0) (by assumption) rfl rfl rfl | exact r_own (i := 1) (by assumption) rfl rfl rfl | exact r_own (i := 2) (by assumption) rfl rfl rfl | exact r_own (i := 3) (by assumption) rfl rfl rfl | exact r_own (i := 4) (by assumption) rfl rfl rfl | exact r_own (i := 5) (by assumption) rfl rfl rfl) rfl ?_)
    | refine x_op rfl (x_val (r_len_string (by assumption) rfl) rfl ?_)
    | refine x_op rfl (x_val (r_len_slice (by assumption) rfl) rfl ?_)
    | refine x_op rfl (x_val (r_cap_slice (by assumption) rfl) rfl ?_)
    | refine x_op rfl (x_val (r_not rfl rfl) rfl ?_)
    | refine x_op rfl (x_val (r_add rfl rfl ⟨by omega, by omega⟩) rfl ?_)
    | refine x_op rfl (x_val (r_sub rfl rfl ⟨by omega, by omega⟩) rfl ?_)
    | refine x_op rfl (x_val (r_build (by assumption) (by assumption) rfl rfl) rfl ?_)
    | refine x_op rfl (x_val (r_nilCheck rfl) rfl ?_)
    | refine x_op rfl (x_val (r_lss (r := true) rfl rfl (decide_eq_true (by omega))) rfl ?_)
    | refine x_op rfl (x_val (r_lss (r := false) rfl rfl (decide_eq_false (by omega))) rfl ?_)
    | refine x_op rfl (x_val (r_leq (r := true) rfl rfl (decide_eq_true (by omega))) rfl ?_)
    | refine x_op rfl (x_val (r_leq (r := false) rfl rfl (decide_eq_false (by omega))) rfl ?_)
    | refine x_op rfl (x_val (r_gtr (r := true) rfl rfl (decide_eq_true (by omega))) rfl ?_)
    | refine x_op rfl (x_val (r_gtr (r := false) rfl rfl (decide_eq_false (by omega))) rfl ?_)
    | refine x_op rfl (x_val (r_geq (r := true) rfl rfl (decide_eq_true (by omega))) rfl ?_)
    | refine x_op rfl (x_val (r_geq (r := false) rfl rfl (decide_eq_false (by omega))) rfl ?_)
    | refine x_op rfl (x_val (r_eql (r := true) rfl rfl (decide_eq_true (by omega))) rfl ?_)
    | refine x_op rfl (x_val (r_eql (r := false) rfl rfl (decide_eq_false (by omega))) rfl ?_)
    | refine x_op rfl (x_val (r_neq (r := true) rfl rfl (decide_eq_true (by omega))) rfl ?_)
    | refine x_op rfl (x_val (r_neq (r := false) rfl rfl (decide_eq_false (by omega))) rfl ?_)
    | refine x_op rfl (x_val (by first | exact r_ownN (i := 0) (by assumption) rfl rfl rfl | exact r_ownN (i := 1) (by assumption) rfl rfl rfl | exact r_ownN (i := 2) (by assumption) rfl rfl rfl | exact r_ownN (i := 3) (by assumption) rfl rfl rfl | exact r_ownN (i := 4) (by assumption) rfl rfl rfl | exact r_ownN (i := 5) (by assumption) rfl rfl rfl) rfl ?_)
    | refine x_op rfl (s_store (i := 0) (by assumption) rfl rfl rfl rfl rfl rfl ?_)
    | refine x_op rfl (s_store (i := 1) (by assumption) rfl rfl rfl rfl rfl rfl ?_)
    | refine x_op rfl (s_store (i := 2) (by assumption) rfl rfl rfl rfl rfl rfl ?_)
    | refine x_op rfl (s_store (i := 3) (by assumption) rfl rfl rfl rfl rfl rfl ?_)
    | refine x_op rfl (s_store (i := 4) (by assumption) rfl rfl rfl rfl rfl rfl ?_)
    | refine x_op rfl (s_store (i := 5) (by assumption) rfl rfl rfl rfl rfl rfl ?_)
    | refine x_op rfl (s_box rfl rfl fun b hb => ?_) | refine x_op rfl (s_alloc (by assumption) rfl fun b hb => ?_))
            exact x_again (k + 1) ⟨rfl, rfl, rfl, rfl, trivial⟩ (fun _ h => h.tail_) ⟨by omega, hstep (by simp [valOk]; omega)⟩ (by omega)
        · repeat (first
    | refine x_seq ?_ | refine x_region ?_ | refine x_nil ?_ | refine x_block ?_ | refine x_skip ?_ | refine x_exit rfl ?_ | refine x_true rfl ?_ | refine x_false rfl ?_ | refine x_ret ?_ | refine x_tend ?_
    | refine x_off rfl rfl ?_ | refine x_off0 rfl ?_
    | refine x_op rfl (x_val (r_move rfl) rfl ?_)
    | refine x_op rfl (x_val (r_assign rfl) rfl ?_)
    | refine x_op rfl (x_val (r_extract rfl rfl) rfl ?_)
    | refine x_op rfl (x_val (r_pick_t rfl rfl) rfl ?_)
    | refine x_op rfl (x_val (r_pick_f rfl rfl) rfl ?_)
    | refine x_op rfl (x_val (r_fieldAddr (by assumption) rfl) rfl ?_)
    | refine x_op rfl (x_val (by first | exact r_own_add (i := 0) (by assumption) rfl rfl rfl | exact r_own_add (i := 1) (by assumption) rfl rfl rfl | exact r_own_add (i := 2) (by assumption) rfl rfl rfl | exact r_own_add (i := 3) (by assumption) rfl rfl rfl | exact r_own_add (i := 4) (by assumption) rfl rfl rfl | exact r_own_add (i := 5) (by assumption) rfl rfl rfl | exact r_own (i := 0) (by assumption) rfl rfl rfl | exact r_own (i := 1) (by assumption) rfl rfl rfl | exact r_own (i := 2) (by assumption) rfl rfl rfl | exact r_own (i := 3) (by assumption) rfl rfl rfl | exact r_own (i := 4) (by assumption) rfl rfl rfl | exact r_own (i := 5) (by assumption) rfl rfl rfl) rfl ?_)
    | refine x_op rfl (x_val (r_len_string (by assumption) rfl) rfl ?_)
    | refine x_op rfl (x_val (r_len_slice (by assumption) rfl) rfl ?_)
    | refine x_op rfl (x_val (r_cap_slice (by assumption) rfl) rfl ?_)
    | refine x_op rfl (x_val (r_not rfl rfl) rfl ?_)
    | refine x_op rfl (x_val (r_add rfl rfl ⟨by omega, by omega⟩) rfl ?_)
    | refine x_op rfl (x_val (r_sub rfl rfl ⟨by omega, by omega⟩) rfl ?_)
    | refine x_op rfl (x_val (r_build (by assumption) (by assumption) rfl rfl) rfl ?_)
    | refine x_op rfl (x_val (r_nilCheck rfl) rfl ?_)
    | refine x_op rfl (x_val (r_lss (r := true) rfl rfl (decide_eq_true (by omega))) rfl ?_)
    | refine x_op rfl (x_val (r_lss (r := false) rfl rfl (decide_eq_false (by omega))) rfl ?_)
    | refine x_op rfl (x_val (r_leq (r := true) rfl rfl (decide_eq_true (by omega))) rfl ?_)
    | refine x_op rfl (x_val (r_leq (r := false) rfl rfl (decide_eq_false (by omega))) rfl ?_)
    | refine x_op rfl (x_val (r_gtr (r := true) rfl rfl (decide_eq_true (by omega))) rfl ?_)
    | refine x_op rfl (x_val (r_gtr (r := false) rfl rfl (decide_eq_false (by omega))) rfl ?_)
    | refine x_op rfl (x_val (r_geq (r := true) rfl rfl (decide_eq_true (by omega))) rfl ?_)
    | refine x_op rfl (x_val (r_geq (r := false) rfl rfl (decide_eq_false (by omega))) rfl ?_)
    | refine x_op rfl (x_val (r_eql (r := true) rfl rfl (decide_eq_true (by omega))) rfl ?_)
    | refine x_op rfl (x_val (r_eql (r := false) rfl rfl (decide_eq_false (by omega))) rfl ?_)
    | refine x_op rfl (x_val (r_neq (r := true) rfl rfl (decide_eq_true (by omega))) rfl ?_)
    | refine x_op rfl (x_val (r_neq (r := false) rfl rfl (decide_eq_false (by omega))) rfl ?_)
    | refine x_op rfl (x_val (by first | exact r_ownN (i := 0) (by assumption) rfl rfl rfl | exact r_ownN (i := 1) (by assumption) rfl rfl rfl | exact r_ownN (i := 2) (by assumption) rfl rfl rfl | exact r_ownN (i := 3) (by assumption) rfl rfl rfl | exact r_ownN (i := 4) (by assumption) rfl rfl rfl | exact r_ownN (i := 5) (by assumption) rfl rfl rfl) rfl ?_)
    | refine x_op rfl (s_store (i := 0) (by assumption) rfl rfl rfl rfl rfl rfl ?_)
    | refine x_op rfl (s_store (i := 1) (by assumption) rfl rfl rfl rfl rfl rfl ?_)
    | refine x_op rfl (s_store (i := 2) (by assumption) rfl rfl rfl rfl rfl rfl ?_)
    | refine x_op rfl (s_store (i := 3) (by assumption) rfl rfl rfl rfl rfl rfl ?_)
    | refine x_op rfl (s_store (i := 4) (by assumption) rfl rfl rfl rfl rfl rfl ?_)
    | refine x_op rfl (s_store (i := 5) (by assumption) rfl rfl rfl rfl rfl rfl ?_)
    | refine x_op rfl (s_box rfl rfl fun b hb => ?_) | refine x_op rfl (s_alloc (by assumption) rfl fun b hb => ?_))
          refine x_op rfl (x_val (r_neq rfl rfl rfl) rfl (x_dec (fun hb => ?_) (fun hb => ?_)))
          · have hR := hbad' (by simp [valOk]; omega)
            repeat (first
    | refine x_seq ?_ | refine x_region ?_ | refine x_nil ?_ | refine x_block ?_ | refine x_skip ?_ | refine x_exit rfl ?_ | refine x_true rfl ?_ | refine x_false rfl ?_ | refine x_ret ?_ | refine x_tend ?_
    | refine x_off rfl rfl ?_ | refine x_off0 rfl ?_
    | refine x_op rfl (x_val (r_move rfl) rfl ?_)
    | refine x_op rfl (x_val (r_assign rfl) rfl ?_)
    | refine x_op rfl (x_val (r_extract rfl rfl) rfl ?_)
    | refine x_op rfl (x_val (r_pick_t rfl rfl) rfl ?_)
    | refine x_op rfl (x_val (r_pick_f rfl rfl) rfl ?_)
    | refine x_op rfl (x_val (r_fieldAddr (by assumption) rfl) rfl ?_)
    | refine x_op rfl (x_val (by first | exact r_own_add (i := 0) (by assumption) rfl rfl rfl | exact r_own_add (i := 1) (by assumption) rfl rfl rfl | exact r_own_add (i := 2) (by assumption) rfl rfl rfl | exact r_own_add (i := 3) (by assumption) rfl rfl rfl | exact r_own_add (i := 4) (by assumption) rfl rfl rfl | exact r_own_add (i := 5) (by assumption) rfl rfl rfl | exact r_own (i := 0) (by assumption) rfl rfl rfl | exact r_own (i := 1) (by assumption) rfl rfl rfl | exact r_own (i := 2) (by assumption) rfl rfl rfl | exact r_own (i := 3) (by assumption) rfl rfl rfl | exact r_own (i := 4) (by assumption) rfl rfl rfl | exact r_own (i := 5) (by assumption) rfl rfl rfl) rfl ?_)
    | refine x_op rfl (x_val (r_len_string (by assumption) rfl) rfl ?_)
    | refine x_op rfl (x_val (r_len_slice (by assumption) rfl) rfl ?_)
    | refine x_op rfl (x_val (r_cap_slice (by assumption) rfl) rfl ?_)
    | refine x_op rfl (x_val (r_not rfl rfl) rfl ?_)
    | refine x_op rfl (x_val (r_add rfl rfl ⟨by omega, by omega⟩) rfl ?_)
    | refine x_op rfl (x_val (r_sub rfl rfl ⟨by omega, by omega⟩) rfl ?_)
    | refine x_op rfl (x_val (r_build (by assumption) (by assumption) rfl rfl) rfl ?_)
    | refine x_op rfl (x_val (r_nilCheck rfl) rfl ?_)
    | refine x_op rfl (x_val (r_lss (r := true) rfl rfl (decide_eq_true (by omega))) rfl ?_)
    | refine x_op rfl (x_val (r_lss (r := false) rfl rfl (decide_eq_false (by omega))) rfl ?_)
    | refine x_op rfl (x_val (r_leq (r := true) rfl rfl (decide_eq_true (by omega))) rfl ?_)
    | refine x_op rfl (x_val (r_leq (r := false) rfl rfl (decide_eq_false (by omega))) rfl ?_)
    | refine x_op rfl (x_val (r_gtr (r := true) rfl rfl (decide_eq_true (by omega))) rfl ?_)
    | refine x_op rfl (x_val (r_gtr (r := false) rfl rfl (decide_eq_false (by omega))) rfl ?_)
    | refine x_op rfl (x_val (r_geq (r := true) rfl rfl (decide_eq_true (by omega))) rfl ?_)
    | refine x_op rfl (x_val (r_geq (r := false) rfl rfl (decide_eq_false (by omega))) rfl ?_)
    | refine x_op rfl (x_val (r_eql (r := true) rfl rfl (decide_eq_true (by omega))) rfl ?_)
    | refine x_op rfl (x_val (r_eql (r := false) rfl rfl (decide_eq_false (by omega))) rfl ?_)
    | refine x_op rfl (x_val (r_neq (r := true) rfl rfl (decide_eq_true (by omega))) rfl ?_)
    | refine x_op rfl (x_val (r_neq (r := false) rfl rfl (decide_eq_false (by omega))) rfl ?_)
    | refine x_op rfl (x_val (by first | exact r_ownN (i := 0) (by assumption) rfl rfl rfl | exact r_ownN (i := 1) (by assumption) rfl rfl rfl | exact r_ownN (i := 2) (by assumption) rfl rfl rfl | exact r_ownN (i := 3) (by assumption) rfl rfl rfl | exact r_ownN (i := 4) (by assumption) rfl rfl rfl | exact r_ownN (i := 5) (by assumption) rfl rfl rfl) rfl ?_)
    | refine x_op rfl (s_store (i := 0) (by assumption) rfl rfl rfl rfl rfl rfl ?_)
    | refine x_op rfl (s_store (i := 1) (by assumption) rfl rfl rfl rfl rfl rfl ?_)
    | refine x_op rfl (s_store (i := 2) (by assumption) rfl rfl rfl rfl rfl rfl ?_)
    | refine x_op rfl (s_store (i := 3) (by assumption) rfl rfl rfl rfl rfl rfl ?_)
    | refine x_op rfl (s_store (i := 4) (by assumption) rfl rfl rfl rfl rfl rfl ?_)
    | refine x_op rfl (s_store (i := 5) (by assumption) rfl rfl rfl rfl rfl rfl ?_)
    | refine x_op rfl (s_box rfl rfl fun b hb => ?_) | refine x_op rfl (s_alloc (by assumption) rfl fun b hb => ?_))
            exact x_ret1 rfl rfl fun w1 hO => ⟨_, rfl, by rw [hR], hO.none_⟩
          · repeat (first
    | refine x_seq ?_ | refine x_region ?_ | refine x_nil ?_ | refine x_block ?_ | refine x_skip ?_ | refine x_exit rfl ?_ | refine x_true rfl ?_ | refine x_false rfl ?_ | refine x_ret ?_ | refine x_tend ?_
    | refine x_off rfl rfl ?_ | refine x_off0 rfl ?_
    | refine x_op rfl (x_val (r_move rfl) rfl ?_)
    | refine x_op rfl (x_val (r_assign rfl) rfl ?_)
    | refine x_op rfl (x_val (r_extract rfl rfl) rfl ?_)
    | refine x_op rfl (x_val (r_pick_t rfl rfl) rfl ?_)
    | refine x_op rfl (x_val (r_pick_f rfl rfl) rfl ?_)
    | refine x_op rfl (x_val (r_fieldAddr (by assumption) rfl) rfl ?_)
    | refine x_op rfl (x_val (by first | exact r_own_add (i := 0) (by assumption) rfl rfl rfl | exact r_own_add (i := 1) (by assumption) rfl rfl rfl | exact r_own_add (i := 2) (by assumption) rfl rfl rfl | exact r_own_add (i := 3) (by assumption) rfl rfl rfl | exact r_own_add (i := 4) (by assumption) rfl rfl rfl | exact r_own_add (i := 5) (by assumption) rfl rfl rfl | exact r_own (i := 0) (by assumption) rfl rfl rfl | exact r_own (i := 1) (by assumption) rfl rfl rfl | exact r_own (i := 2) (by assumption) rfl rfl rfl | exact r_own (i := 3) (by assumption) rfl rfl rfl | exact r_own (i := 4) (by assumption) rfl rfl rfl | exact r_own (i := 5) (by assumption) rfl rfl rfl) rfl ?_)
    | refine x_op rfl (x_val (r_len_string (by assumption) rfl) rfl ?_)
    | refine x_op rfl (x_val (r_len_slice (by assumption) rfl) rfl ?_)
    | refine x_op rfl (x_val (r_cap_slice (by assumption) rfl) rfl ?_)
    | refine x_op rfl (x_val (r_not rfl rfl) rfl ?_)
    | refine x_op rfl (x_val (r_add rfl rfl ⟨by omega, by omega⟩) rfl ?_)
    | refine x_op rfl (x_val (r_sub rfl rfl ⟨by omega, by omega⟩) rfl ?_)
    | refine x_op rfl (x_val (r_build (by assumption) (by assumption) rfl rfl) rfl ?_)
    | refine x_op rfl (x_val (r_nilCheck rfl) rfl ?_)
    | refine x_op rfl (x_val (r_lss (r := true) rfl rfl (decide_eq_true (by omega))) rfl ?_)
    | refine x_op rfl (x_val (r_lss (r := false) rfl rfl (decide_eq_false (by omega))) rfl ?_)
    | refine x_op rfl (x_val (r_leq (r := true) rfl rfl (decide_eq_true (by omega))) rfl ?_)
    | refine x_op rfl (x_val (r_leq (r := false) rfl rfl (decide_eq_false (by omega))) rfl ?_)
    | refine x_op rfl (x_val (r_gtr (r := true) rfl rfl (decide_eq_true (by omega))) rfl ?_)
    | refine x_op rfl (x_val (r_gtr (r := false) rfl rfl (decide_eq_false (by omega))) rfl ?_)
    | refine x_op rfl (x_val (r_geq (r := true) rfl rfl (decide_eq_true (by omega))) rfl ?_)
    | refine x_op rfl (x_val (r_geq (r := false) rfl rfl (decide_eq_false (by omega))) rfl ?_)
    | refine x_op rfl (x_val (r_eql (r := true) rfl rfl (decide_eq_true (by omega))) rfl ?_)
    | refine x_op rfl (x_val (r_eql (r := false) rfl rfl (decide_eq_false (by omega))) rfl ?_)
    | refine x_op rfl (x_val (r_neq (r := true) rfl rfl (decide_eq_true (by omega))) rfl ?_)
    | refine x_op rfl (x_val (r_neq (r := false) rfl rfl (decide_eq_false (by omega))) rfl ?_)
    | refine x_op rfl (x_val (by first | exact r_ownN (i := 0) (by assumption) rfl rfl rfl | exact r_ownN (i := 1) (by assumption) rfl rfl rfl | exact r_ownN (i := 2) (by assumption) rfl rfl rfl | exact r_ownN (i := 3) (by assumption) rfl rfl rfl | exact r_ownN (i := 4) (by assumption) rfl rfl rfl | exact r_ownN (i := 5) (by assumption) rfl rfl rfl) rfl ?_)
    | refine x_op rfl (s_store (i := 0) (by assumption) rfl rfl rfl rfl rfl rfl ?_)
    | refine x_op rfl (s_store (i := 1) (by assumption) rfl rfl rfl rfl rfl rfl ?_)
    | refine x_op rfl (s_store (i := 2) (by assumption) rfl rfl rfl rfl rfl rfl ?_)
    | refine x_op rfl (s_store (i := 3) (by assumption) rfl rfl rfl rfl rfl rfl ?_)
    | refine x_op rfl (s_store (i := 4) (by assumption) rfl rfl rfl rfl rfl rfl ?_)
    | refine x_op rfl (s_store (i := 5) (by assumption) rfl rfl rfl rfl rfl rfl ?_)
    | refine x_op rfl (s_box rfl rfl fun b hb => ?_) | refine x_op rfl (s_alloc (by assumption) rfl fun b hb => ?_))
            refine x_op rfl (s_call Ty.c15 rfl rfl (fun w hw => child_ p.1 p.2 w (by omega)) (fun wq v wq1 hw h => ?_)); obtain ⟨rfl, hO⟩ := h; refine ⟨_, hw.call0 hO, ?_⟩
            repeat (first
    | refine x_seq ?_ | refine x_region ?_ | refine x_nil ?_ | refine x_block ?_ | refine x_skip ?_ | refine x_exit rfl ?_ | refine x_true rfl ?_ | refine x_false rfl ?_ | refine x_ret ?_ | refine x_tend ?_
    | refine x_off rfl rfl ?_ | refine x_off0 rfl ?_
    | refine x_op rfl (x_val (r_move rfl) rfl ?_)
    | refine x_op rfl (x_val (r_assign rfl) rfl ?_)
    | refine x_op rfl (x_val (r_extract rfl rfl) rfl ?_)
    | refine x_op rfl (x_val (r_pick_t rfl rfl) rfl ?_)
    | refine x_op rfl (x_val (r_pick_f rfl rfl) rfl ?_)
    | refine x_op rfl (x_val (r_fieldAddr (by assumption) rfl) rfl ?_)
    | refine x_op rfl (x_val (by first | exact r_own_add (i := 0) (by assumption) rfl rfl rfl | exact r_own_add (i := 1) (by assumption) rfl rfl rfl | exact r_own_add (i := 2) (by assumption) rfl rfl rfl | exact r_own_add (i := 3) (by assumption) rfl rfl rfl | exact r_own_add (i := 4) (by assumption) rfl rfl rfl | exact r_own_add (i := 5) (by assumption) rfl rfl rfl | exact r_own (i := 0) (by assumption) rfl rfl rfl | exact r_own (i := 1) (by assumption) rfl rfl rfl | exact r_own (i := 2) (by assumption) rfl rfl rfl | exact r_own (i := 3) (by assumption) rfl rfl rfl | exact r_own (i := 4) (by assumption) rfl rfl rfl | exact r_own (i := 5) (by assumption) rfl rfl rfl) rfl ?_)
    | refine x_op rfl (x_val (r_len_string (by assumption) rfl) rfl ?_)
    | refine x_op rfl (x_val (r_len_slice (by assumption) rfl) rfl ?_)
    | refine x_op rfl (x_val (r_cap_slice (by assumption) rfl) rfl ?_)
    | refine x_op rfl (x_val (r_not rfl rfl) rfl ?_)
    | refine x_op rfl (x_val (r_add rfl rfl ⟨by omega, by omega⟩) rfl ?_)
    | refine x_op rfl (x_val (r_sub rfl rfl ⟨by omega, by omega⟩) rfl ?_)
    | refine x_op rfl (x_val (r_build (by assumption) (by assumption) rfl rfl) rfl ?_)
    | refine x_op rfl (x_val (r_nilCheck rfl) rfl ?_)
    | refine x_op rfl (x_val (r_lss (r := true) rfl rfl (decide_eq_true (by omega))) rfl ?_)
    | refine x_op rfl (x_val (r_lss (r := false) rfl rfl (decide_eq_false (by omega))) rfl ?_)
    | refine x_op rfl (x_val (r_leq (r := true) rfl rfl (decide_eq_true (by omega))) rfl ?_)
    | refine x_op rfl (x_val (r_leq (r := false) rfl rfl (decide_eq_false (by omega))) rfl ?_)
    | refine x_op rfl (x_val (r_gtr (r := true) rfl rfl (decide_eq_true (by omega))) rfl ?_)
    | refine x_op rfl (x_val (r_gtr (r := false) rfl rfl (decide_eq_false (by omega))) rfl ?_)
    | refine x_op rfl (x_val (r_geq (r := true) rfl rfl (decide_eq_true (by omega))) rfl ?_)
    | refine x_op rfl (x_val (r_geq (r := false) rfl rfl (decide_eq_false (by omega))) rfl ?_)
    | refine x_op rfl (x_val (r_eql (r := true) rfl rfl (decide_eq_true (by omega))) rfl ?_)
    | refine x_op rfl (x_val (r_eql (r := false) rfl rfl (decide_eq_false (by omega))) rfl ?_)
    | refine x_op rfl (x_val (r_neq (r := true) rfl rfl (decide_eq_true (by omega))) rfl ?_)
    | refine x_op rfl (x_val (r_neq (r := false) rfl rfl (decide_eq_false (by omega))) rfl ?_)
    | refine x_op rfl (x_val (by first | exact r_ownN (i := 0) (by assumption) rfl rfl rfl | exact r_ownN (i := 1) (by assumption) rfl rfl rfl | exact r_ownN (i := 2) (by assumption) rfl rfl rfl | exact r_ownN (i := 3) (by assumption) rfl rfl rfl | exact r_ownN (i := 4) (by assumption) rfl rfl rfl | exact r_ownN (i := 5) (by assumption) rfl rfl rfl) rfl ?_)
    | refine x_op rfl (s_store (i := 0) (by assumption) rfl rfl rfl rfl rfl rfl ?_)
    | refine x_op rfl (s_store (i := 1) (by assumption) rfl rfl rfl rfl rfl rfl ?_)
    | refine x_op rfl (s_store (i := 2) (by assumption) rfl rfl rfl rfl rfl rfl ?_)
    | refine x_op rfl (s_store (i := 3) (by assumption) rfl rfl rfl rfl rfl rfl ?_)
    | refine x_op rfl (s_store (i := 4) (by assumption) rfl rfl rfl rfl rfl rfl ?_)
    | refine x_op rfl (s_store (i := 5) (by assumption) rfl rfl rfl rfl rfl rfl ?_)
    | refine x_op rfl (s_box rfl rfl fun b hb => ?_) | refine x_op rfl (s_alloc (by assumption) rfl fun b hb => ?_))
            refine x_op rfl (x_val (r_eql rfl rfl rfl) rfl (x_dec (fun hb => ?_) (fun hb => ?_)))
            · have hR := hbad' (by simp [valOk, hb])
              repeat (first
    | refine x_seq ?_ | refine x_region ?_ | refine x_nil ?_ | refine x_block ?_ | refine x_skip ?_ | refine x_exit rfl ?_ | refine x_true rfl ?_ | refine x_false rfl ?_ | refine x_ret ?_ | refine x_tend ?_
    | refine x_off rfl rfl ?_ | refine x_off0 rfl ?_
    | refine x_op rfl (x_val (r_move rfl) rfl ?_)
    | refine x_op rfl (x_val (r_assign rfl) rfl ?_)
    | refine x_op rfl (x_val (r_extract rfl rfl) rfl ?_)
    | refine x_op rfl (x_val (r_pick_t rfl rfl) rfl ?_)
    | refine x_op rfl (x_val (r_pick_f rfl rfl) rfl ?_)
    | refine x_op rfl (x_val (r_fieldAddr (by assumption) rfl) rfl ?_)
    | refine x_op rfl (x_val (by first | exact r_own_add (i := 0) (by assumption) rfl rfl rfl | exact r_own_add (i := 1) (by assumption) rfl rfl rfl | exact r_own_add (i := 2) (by assumption) rfl rfl rfl | exact r_own_add (i := 3) (by assumption) rfl rfl rfl | exact r_own_add (i := 4) (by assumption) rfl rfl rfl | exact r_own_add (i := 5) (by assumption) rfl rfl rfl | exact r_own (i := 0) (by assumption) rfl rfl rfl | exact r_own (i := 1) (by assumption) rfl rfl rfl | exact r_own (i := 2) (by assumption) rfl rfl rfl | exact r_own (i := 3) (by assumption) rfl rfl rfl | exact r_own (i := 4) (by assumption) rfl rfl rfl | exact r_own (i := 5) (by assumption) rfl rfl rfl) rfl ?_)
    | refine x_op rfl (x_val (r_len_string (by assumption) rfl) rfl ?_)
    | refine x_op rfl (x_val (r_len_slice (by assumption) rfl) rfl ?_)
    | refine x_op rfl (x_val (r_cap_slice (by assumption) rfl) rfl ?_)
    | refine x_op rfl (x_val (r_not rfl rfl) rfl ?_)
    | refine x_op rfl (x_val (r_add rfl rfl ⟨by omega, by omega⟩) rfl ?_)
    | refine x_op rfl (x_val (r_sub rfl rfl ⟨by omega, by omega⟩) rfl ?_)
    | refine x_op rfl (x_val (r_build (by assumption) (by assumption) rfl rfl) rfl ?_)
    | refine x_op rfl (x_val (r_nilCheck rfl) rfl ?_)
    | refine x_op rfl (x_val (r_lss (r := true) rfl rfl (decide_eq_true (by omega))) rfl ?_)
    | refine x_op rfl (x_val (r_lss (r := false) rfl rfl (decide_eq_false (by omega))) rfl ?_)
    | refine x_op rfl (x_val (r_leq (r := true) rfl rfl (decide_eq_true (by omega))) rfl ?_)
    | refine x_op rfl (x_val (r_leq (r := false) rfl rfl (decide_eq_false (by omega))) rfl ?_)
    | refine x_op rfl (x_val (r_gtr (r := true) rfl rfl (decide_eq_true (by omega))) rfl ?_)
    | refine x_op rfl (x_val (r_gtr (r := false) rfl rfl (decide_eq_false (by omega))) rfl ?_)
    | refine x_op rfl (x_val (r_geq (r := true) rfl rfl (decide_eq_true (by omega))) rfl ?_)
    | refine x_op rfl (x_val (r_geq (r := false) rfl rfl (decide_eq_false (by omega))) rfl ?_)
    | refine x_op rfl (x_val (r_eql (r := true) rfl rfl (decide_eq_true (by omega))) rfl ?_)
    | refine x_op rfl (x_val (r_eql (r := false) rfl rfl (decide_eq_false (by omega))) rfl ?_)
    | refine x_op rfl (x_val (r_neq (r := true) rfl rfl (decide_eq_true (by omega))) rfl ?_)
    | refine x_op rfl (x_val (r_neq (r := false) rfl rfl (decide_eq_false (by omega))) rfl ?_)
    | refine x_op rfl (x_val (by first | exact r_ownN (i := 0) (by assumption) rfl rfl rfl | exact r_ownN (i := 1) (by assumption) rfl rfl rfl | exact r_ownN (i := 2) (by assumption) rfl rfl rfl | exact r_ownN (i := 3) (by assumption) rfl rfl rfl | exact r_ownN (i := 4) (by assumption) rfl rfl rfl | exact r_ownN (i := 5) (by assumption) rfl rfl rfl) rfl ?_)
    | refine x_op rfl (s_store (i := 0) (by assumption) rfl rfl rfl rfl rfl rfl ?_)
    | refine x_op rfl (s_store (i := 1) (by assumption) rfl rfl rfl rfl rfl rfl ?_)
    | refine x_op rfl (s_store (i := 2) (by assumption) rfl rfl rfl rfl rfl rfl ?_)
    | refine x_op rfl (s_store (i := 3) (by assumption) rfl rfl rfl rfl rfl rfl ?_)
    | refine x_op rfl (s_store (i := 4) (by assumption) rfl rfl rfl rfl rfl rfl ?_)
    | refine x_op rfl (s_store (i := 5) (by assumption) rfl rfl rfl rfl rfl rfl ?_)
    | refine x_op rfl (s_box rfl rfl fun b hb => ?_) | refine x_op rfl (s_alloc (by assumption) rfl fun b hb => ?_))
              exact x_ret1 rfl rfl fun w1 hO => ⟨_, rfl, by rw [hR], hO.none_⟩
            · repeat (first
    | refine x_seq ?_ | refine x_region ?_ | refine x_nil ?_ | refine x_block ?_ | refine x_skip ?_ | refine x_exit rfl ?_ | refine x_true rfl ?_ | refine x_false rfl ?_ | refine x_ret ?_ | refine x_tend ?_
    | refine x_off rfl rfl ?_ | refine x_off0 rfl ?_
    | refine x_op rfl (x_val (r_move rfl) rfl ?_)
    | refine x_op rfl (x_val (r_assign rfl) rfl ?_)
    | refine x_op rfl (x_val (r_extract rfl rfl) rfl ?_)
    | refine x_op rfl (x_val (r_pick_t rfl rfl) rfl ?_)
    | refine x_op rfl (x_val (r_pick_f rfl rfl) rfl ?_)
    | refine x_op rfl (x_val (r_fieldAddr (by assumption) rfl) rfl ?_)
    | refine x_op rfl (x_val (by first | exact r_own_add (i := 0) (by assumption) rfl rfl rfl | exact r_own_add (i := 1) (by assumption) rfl rfl rfl | exact r_own_add (i := 2) (by assumption) rfl rfl rfl | exact r_own_add (i := 3) (by assumption) rfl rfl rfl | exact r_own_add (i := 4) (by assumption) rfl rfl rfl | exact r_own_add (i := 5) (by assumption) rfl rfl rfl | exact r_own (i := 0) (by assumption) rfl rfl rfl | exact r_own (i := 1) (by assumption) rfl rfl rfl | exact r_own (i := 2) (by assumption) rfl rfl rfl | exact r_own (i := 3) (by assumption) rfl rfl rfl | exact r_own (i := 4) (by assumption) rfl rfl rfl | exact r_own (i := 5) (by assumption) rfl rfl rfl) rfl ?_)
    | refine x_op rfl (x_val (r_len_string (by assumption) rfl) rfl ?_)
    | refine x_op rfl (x_val (r_len_slice (by assumption) rfl) rfl ?_)
    | refine x_op rfl (x_val (r_cap_slice (by assumption) rfl) rfl ?_)
    | refine x_op rfl (x_val (r_not rfl rfl) rfl ?_)
    | refine x_op rfl (x_val (r_add rfl rfl ⟨by omega, by omega⟩) rfl ?_)
    | refine x_op rfl (x_val (r_sub rfl rfl ⟨by omega, by omega⟩) rfl ?_)
    | refine x_op rfl (x_val (r_build (by assumption) (by assumption) rfl rfl) rfl ?_)
    | refine x_op rfl (x_val (r_nilCheck rfl) rfl ?_)
    | refine x_op rfl (x_val (r_lss (r := true) rfl rfl (decide_eq_true (by omega))) rfl ?_)
    | refine x_op rfl (x_val (r_lss (r := false) rfl rfl (decide_eq_false (by omega))) rfl ?_)
    | refine x_op rfl (x_val (r_leq (r := true) rfl rfl (decide_eq_true (by omega))) rfl ?_)
    | refine x_op rfl (x_val (r_leq (r := false) rfl rfl (decide_eq_false (by omega))) rfl ?_)
    | refine x_op rfl (x_val (r_gtr (r := true) rfl rfl (decide_eq_true (by omega))) rfl ?_)
    | refine x_op rfl (x_val (r_gtr (r := false) rfl rfl (decide_eq_false (by omega))) rfl ?_)
    | refine x_op rfl (x_val (r_geq (r := true) rfl rfl (decide_eq_true (by omega))) rfl ?_)
    | refine x_op rfl (x_val (r_geq (r := false) rfl rfl (decide_eq_false (by omega))) rfl ?_)
    | refine x_op rfl (x_val (r_eql (r := true) rfl rfl (decide_eq_true (by omega))) rfl ?_)
    | refine x_op rfl (x_val (r_eql (r := false) rfl rfl (decide_eq_false (by omega))) rfl ?_)
    | refine x_op rfl (x_val (r_neq (r := true) rfl rfl (decide_eq_true (by omega))) rfl ?_)
    | refine x_op rfl (x_val (r_neq (r := false) rfl rfl (decide_eq_false (by omega))) rfl ?_)
    | refine x_op rfl (x_val (by first | exact r_ownN (i := 0) (by assumption) rfl rfl rfl | exact r_ownN (i := 1) (by assumption) rfl rfl rfl | exact r_ownN (i := 2) (by assumption) rfl rfl rfl | exact r_ownN (i := 3) (by assumption) rfl rfl rfl | exact r_ownN (i := 4) (by assumption) rfl rfl rfl | exact r_ownN (i := 5) (by assumption) rfl rfl rfl) rfl ?_)
    | refine x_op rfl (s_store (i := 0) (by assumption) rfl rfl rfl rfl rfl rfl ?_)
    | refine x_op rfl (s_store (i := 1) (by assumption) rfl rfl rfl rfl rfl rfl ?_)
    | refine x_op rfl (s_store (i := 2) (by assumption) rfl rfl rfl rfl rfl rfl ?_)
    | refine x_op rfl (s_store (i := 3) (by assumption) rfl rfl rfl rfl rfl rfl ?_)
    | refine x_op rfl (s_store (i := 4) (by assumption) rfl rfl rfl rfl rfl rfl ?_)
    | refine x_op rfl (s_store (i := 5) (by assumption) rfl rfl rfl rfl rfl rfl ?_)
    | refine x_op rfl (s_box rfl rfl fun b hb => ?_) | refine x_op rfl (s_alloc (by assumption) rfl fun b hb => ?_))
              exact x_again (k + 1) ⟨rfl, rfl, rfl, rfl, trivial⟩ (fun _ h => h.tail_) ⟨by omega, hstep (by simp [valOk, hb]; omega)⟩ (by omega)
    · have hkn : k = n := by omega
      subst hkn
      repeat (first
    | refine x_seq ?_ | refine x_region ?_ | refine x_nil ?_ | refine x_block ?_ | refine x_skip ?_ | refine x_exit rfl ?_ | refine x_true rfl ?_ | refine x_false rfl ?_ | refine x_ret ?_ | refine x_tend ?_
    | refine x_off rfl rfl ?_ | refine x_off0 rfl ?_
    | refine x_op rfl (x_val (r_move rfl) rfl ?_)
    | refine x_op rfl (x_val (r_assign rfl) rfl ?_)
    | refine x_op rfl (x_val (r_extract rfl rfl) rfl ?_)
    | refine x_op rfl (x_val (r_pick_t rfl rfl) rfl ?_)
    | refine x_op rfl (x_val (r_pick_f rfl rfl) rfl ?_)
    | refine x_op rfl (x_val (r_fieldAddr (by assumption) rfl) rfl ?_)
    | refine x_op rfl (x_val (by first | exact r_own_add (i := 0) (by assumption) rfl rfl rfl | exact r_own_add (i := 1) (by assumption) rfl rfl rfl | exact r_own_add (i := 2) (by assumption) rfl rfl rfl | exact r_own_add (i := 3) (by assumption) rfl rfl rfl | exact r_own_add (i := 4) (by assumption) rfl rfl rfl | exact r_own_add (i := 5) (by assumption) rfl rfl rfl | exact r_own (i := 0) (by assumption) rfl rfl rfl | exact r_own (i := 1) (by assumption) rfl rfl rfl | exact r_own (i := 2) (by assumption) rfl rfl rfl | exact r_own (i := 3) (by assumption) rfl rfl rfl | exact r_own (i := 4) (by assumption) rfl rfl rfl | exact r_own (i := 5) (by assumption) rfl rfl rfl) rfl ?_)
    | refine x_op rfl (x_val (r_len_string (by assumption) rfl) rfl ?_)
    | refine x_op rfl (x_val (r_len_slice (by assumption) rfl) rfl ?_)
    | refine x_op rfl (x_val (r_cap_slice (by assumption) rfl) rfl ?_)
    | refine x_op rfl (x_val (r_not rfl rfl) rfl ?_)
    | refine x_op rfl (x_val (r_add rfl rfl ⟨by omega, by omega⟩) rfl ?_)
    | refine x_op rfl (x_val (r_sub rfl rfl ⟨by omega, by omega⟩) rfl ?_)
    | refine x_op rfl (x_val (r_build (by assumption) (by assumption) rfl rfl) rfl ?_)
    | refine x_op rfl (x_val (r_nilCheck rfl) rfl ?_)
    | refine x_op rfl (x_val (r_lss (r := true) rfl rfl (decide_eq_true (by omega))) rfl ?_)
    | refine x_op rfl (x_val (r_lss (r := false) rfl rfl (decide_eq_false (by omega))) rfl ?_)
    | refine x_op rfl (x_val (r_leq (r := true) rfl rfl (decide_eq_true (by omega))) rfl ?_)
    | refine x_op rfl (x_val (r_leq (r := false) rfl rfl (decide_eq_false (by omega))) rfl ?_)
    | refine x_op rfl (x_val (r_gtr (r := true) rfl rfl (decide_eq_true (by omega))) rfl ?_)
    | refine x_op rfl (x_val (r_gtr (r := false) rfl rfl (decide_eq_false (by omega))) rfl ?_)
    | refine x_op rfl (x_val (r_geq (r := true) rfl rfl (decide_eq_true (by omega))) rfl ?_)
    | refine x_op rfl (x_val (r_geq (r := false) rfl rfl (decide_eq_false (by omega))) rfl ?_)
    | refine x_op rfl (x_val (r_eql (r := true) rfl rfl (decide_eq_true (by omega))) rfl ?_)
    | refine x_op rfl (x_val (r_eql (r := false) rfl rfl (decide_eq_false (by omega))) rfl ?_)
    | refine x_op rfl (x_val (r_neq (r := true) rfl rfl (decide_eq_true (by omega))) rfl ?_)
    | refine x_op rfl (x_val (r_neq (r := false) rfl rfl (decide_eq_false (by omega))) rfl ?_)
    | refine x_op rfl (x_val (by first | exact r_ownN (i := 0) (by assumption) rfl rfl rfl | exact r_ownN (i := 1) (by assumption) rfl rfl rfl | exact r_ownN (i := 2) (by assumption) rfl rfl rfl | exact r_ownN (i := 3) (by assumption) rfl rfl rfl | exact r_ownN (i := 4) (by assumption) rfl rfl rfl | exact r_ownN (i := 5) (by assumption) rfl rfl rfl) rfl ?_)
    | refine x_op rfl (s_store (i := 0) (by assumption) rfl rfl rfl rfl rfl rfl ?_)
    | refine x_op rfl (s_store (i := 1) (by assumption) rfl rfl rfl rfl rfl rfl ?_)
    | refine x_op rfl (s_store (i := 2) (by assumption) rfl rfl rfl rfl rfl rfl ?_)
    | refine x_op rfl (s_store (i := 3) (by assumption) rfl rfl rfl rfl rfl rfl ?_)
    | refine x_op rfl (s_store (i := 4) (by assumption) rfl rfl rfl rfl rfl rfl ?_)
    | refine x_op rfl (s_store (i := 5) (by assumption) rfl rfl rfl rfl rfl rfl ?_)
    | refine x_op rfl (s_box rfl rfl fun b hb => ?_) | refine x_op rfl (s_alloc (by assumption) rfl fun b hb => ?_))
      have hR : rightB br first ps = true := by
        have hd : ps.drop k = [] := List.drop_eq_nil_of_le (by omega)
        rw [hd] at hI
        unfold rightB
        rw [hI, hhead]
        simp [rightL]
        omega
      exact x_ret1 rfl rfl fun w1 hO => ⟨_, rfl, by rw [hR], hO.none_⟩
end Go.Proofs.Ytlpoepmipbegaaa.Lf
