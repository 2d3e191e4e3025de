/- leaf.Split. -/
import Derived.Test.YtlpoepmipbegaaaLg
set_option linter.unusedVariables false
set_option linter.unusedSimpArgs false
namespace Go.Proofs.Ytlpoepmipbegaaa.Lf
open Go Go.RowKit Go.Proofs.Ytlpoepmipbegaaa.En Go.Proofs.Ytlpoepmipbegaaa.Lm

theorem fl_sz {ps : List Pr} {n : Nat} (h : ps.length = n) : ∀ k : Nat, k ≤ n → (ps.take k).length = k := fun k hk => by rw [List.length_take]; omega
set_option maxHeartbeats 8000000 in
set_option maxRecDepth 20000 in
theorem Split_ (N : Nd) (A : Option Addr) (n c : Nat) (w : World) (hr : Rd w A n 2 (fl N.cs)) (hnc : n ≤ c) (hsz : ∀ p ∈ N.cs, p.1.size ≤ maxLen ∧ p.2.size ≤ maxLen) :
    Calls Try.prog 6 #[.agg #[.bool N.br, .int .i64 N.first, .slice A n c]] w fun en w1 => ∃ r, en = .returned r ∧
      ∃ A1 c1 A2 c2, r = .tuple #[(splitF N).1.val A1 c1, .string (splitF N).2.1, (splitF N).2.2.1.val A2 c2, .int .i64 (splitF N).2.2.2] ∧
        SlOk A1 (splitF N).1.cs.length c1 2 (fl (splitF N).1.cs) ∧ SlOk A2 (splitF N).2.2.1.cs.length c2 2 (fl (splitF N).2.2.1.cs) ∧
        Own w [] [sl A1 c1 36 2 (fl (splitF N).1.cs), sl A2 c2 36 2 (fl (splitF N).2.2.1.cs)] w1 := by
  obtain ⟨br, first, ps⟩ := N
  refine fn_enter (args := [_]) (F := []) Try.func6 rfl rfl rfl ?_
  have u26 := Try.underlying26; have z26 := Ty.z26; have i26 := Ty.i26; have p26 := Ty.p26; have q26_0 := Ty.q26_0; have q26_1 := Ty.q26_1; have q26_2 := Ty.q26_2; have u22 := Try.underlying22; have z22 := Ty.z22; have i22 := Ty.i22; have u36 := Try.underlying36; have z36 := Ty.z36; have i36 := Ty.i36; have p36 := Ty.p36; have q36_0 := Ty.q36_0; have q36_1 := Ty.q36_1; have u9 := Try.underlying9; have z9 := Ty.z9; have i9 := Ty.i9; have u3 := Try.underlying3; have z3 := Ty.z3; have i3 := Ty.i3; have u4 := Try.underlying4; have z4 := Ty.z4; have i4 := Ty.i4
  have hlen : ps.length = n := rd_len hr
  -- what an error answers
  have herr : ∀ (w1 : World) (L : List Asn) (k : Int), Own w [] L w1 → splitF ⟨br, first, ps⟩ = (.zero, emptyB, .zero, k) →
      ∃ r, Ending.returned (.tuple #[Nd.zero.val none 0, .string emptyB, Nd.zero.val none 0, .int .i64 k]) = .returned r ∧
      ∃ A1 c1 A2 c2, r = .tuple #[(splitF ⟨br, first, ps⟩).1.val A1 c1, .string (splitF ⟨br, first, ps⟩).2.1, (splitF ⟨br, first, ps⟩).2.2.1.val A2 c2, .int .i64 (splitF ⟨br, first, ps⟩).2.2.2] ∧
        SlOk A1 (splitF ⟨br, first, ps⟩).1.cs.length c1 2 (fl (splitF ⟨br, first, ps⟩).1.cs) ∧ SlOk A2 (splitF ⟨br, first, ps⟩).2.2.1.cs.length c2 2 (fl (splitF ⟨br, first, ps⟩).2.2.1.cs) ∧
        Own w [] [sl A1 c1 36 2 (fl (splitF ⟨br, first, ps⟩).1.cs), sl A2 c2 36 2 (fl (splitF ⟨br, first, ps⟩).2.2.1.cs)] w1 := by
    intro w1 L k hO h
    rw [h]
    exact ⟨_, rfl, none, 0, none, 0, rfl, SlOk.nil_ 2, SlOk.nil_ 2, (hO.none_.nilsl _ _).nilsl _ _⟩
  refine x_seq ?_
  repeat (first
    | refine x_region ?_ | refine x_nil ?_ | refine x_tend ?_
    | refine x_off rfl rfl ?_ | refine x_off0 rfl ?_
    | refine x_op rfl (x_val (r_move rfl) rfl ?_)
    | refine x_op rfl (x_val (r_assign rfl) rfl ?_)
    | refine x_op rfl (x_val (r_extract rfl rfl) rfl ?_)
    | refine x_op rfl (x_val (r_pick_t rfl rfl) rfl ?_)
    | refine x_op rfl (x_val (r_pick_f rfl rfl) rfl ?_)
    | refine x_op rfl (x_val (r_fieldAddr (by assumption) rfl) rfl ?_)
    | refine x_op rfl (x_val (by first | exact r_own_add (i := 0) (by assumption) rfl rfl rfl | exact r_own_add (i := 1) (by assumption) rfl rfl rfl | exact r_own_add (i := 2) (by assumption) rfl rfl rfl | exact r_own_add (i := 3) (by assumption) rfl rfl rfl | exact r_own_add (i := 4) (by assumption) rfl rfl rfl | exact r_own_add (i := 5) (by assumption) rfl rfl rfl | exact r_own (i := 0) (by assumption) rfl rfl rfl | exact r_own (i := 1) (by assumption) rfl rfl rfl | exact r_own (i := 2) (by assumption) rfl rfl rfl | exact r_own (i := 3) (by assumption) rfl rfl rfl | exact r_own (i := 4) (by assumption) rfl rfl rfl | exact r_own (i := 5) (by assumption) rfl rfl rfl) rfl ?_)
    | refine x_op rfl (x_val (r_len_string (by assumption) rfl) rfl ?_)
    | refine x_op rfl (x_val (r_len_slice (by assumption) rfl) rfl ?_)
    | refine x_op rfl (x_val (r_cap_slice (by assumption) rfl) rfl ?_)
    | refine x_op rfl (x_val (r_not rfl rfl) rfl ?_)
    | refine x_op rfl (x_val (r_add rfl rfl ⟨by omega, by omega⟩) rfl ?_)
    | refine x_op rfl (x_val (r_sub rfl rfl ⟨by omega, by omega⟩) rfl ?_)
    | refine x_op rfl (x_val (r_build (by assumption) (by assumption) rfl rfl) rfl ?_)
    | refine x_op rfl (x_val (r_nilCheck rfl) rfl ?_)
    | refine x_op rfl (x_val (r_lss (r := true) rfl rfl (decide_eq_true (by omega))) rfl ?_)
    | refine x_op rfl (x_val (r_lss (r := false) rfl rfl (decide_eq_false (by omega))) rfl ?_)
    | refine x_op rfl (x_val (r_leq (r := true) rfl rfl (decide_eq_true (by omega))) rfl ?_)
    | refine x_op rfl (x_val (r_leq (r := false) rfl rfl (decide_eq_false (by omega))) rfl ?_)
    | refine x_op rfl (x_val (r_gtr (r := true) rfl rfl (decide_eq_true (by omega))) rfl ?_)
    | refine x_op rfl (x_val (r_gtr (r := false) rfl rfl (decide_eq_false (by omega))) rfl ?_)
    | refine x_op rfl (x_val (r_geq (r := true) rfl rfl (decide_eq_true (by omega))) rfl ?_)
    | refine x_op rfl (x_val (r_geq (r := false) rfl rfl (decide_eq_false (by omega))) rfl ?_)
    | refine x_op rfl (x_val (r_eql (r := true) rfl rfl (decide_eq_true (by omega))) rfl ?_)
    | refine x_op rfl (x_val (r_eql (r := false) rfl rfl (decide_eq_false (by omega))) rfl ?_)
    | refine x_op rfl (x_val (r_neq (r := true) rfl rfl (decide_eq_true (by omega))) rfl ?_)
    | refine x_op rfl (x_val (r_neq (r := false) rfl rfl (decide_eq_false (by omega))) rfl ?_)
    | refine x_op rfl (x_val (by first | exact r_ownN (i := 0) (by assumption) rfl rfl rfl | exact r_ownN (i := 1) (by assumption) rfl rfl rfl | exact r_ownN (i := 2) (by assumption) rfl rfl rfl | exact r_ownN (i := 3) (by assumption) rfl rfl rfl | exact r_ownN (i := 4) (by assumption) rfl rfl rfl | exact r_ownN (i := 5) (by assumption) rfl rfl rfl) rfl ?_)
    | refine x_op rfl (s_store (i := 0) (by assumption) rfl rfl rfl rfl rfl rfl ?_)
    | refine x_op rfl (s_store (i := 1) (by assumption) rfl rfl rfl rfl rfl rfl ?_)
    | refine x_op rfl (s_store (i := 2) (by assumption) rfl rfl rfl rfl rfl rfl ?_)
    | refine x_op rfl (s_store (i := 3) (by assumption) rfl rfl rfl rfl rfl rfl ?_)
    | refine x_op rfl (s_store (i := 4) (by assumption) rfl rfl rfl rfl rfl rfl ?_)
    | refine x_op rfl (s_store (i := 5) (by assumption) rfl rfl rfl rfl rfl rfl ?_)
    | refine x_op rfl (s_box rfl rfl fun b hb => ?_) | refine x_op rfl (s_alloc (by assumption) rfl fun b hb => ?_))
  refine x_cut (σ := Nat × Nat × Nat) (fun s => [(1, .pointer (some ⟨s.1, 0, none⟩)), (2, .pointer (some ⟨s.2.1, 0, none⟩)), (4, .pointer (some ⟨s.2.2, 0, none⟩))])
    (fun s => [bl s.2.2 26 #[.bool false, .int .i64 0, .slice none 0 0], bl s.2.1 26 #[.bool false, .int .i64 0, .slice none 0 0], bl s.1 26 #[.bool br, .int .i64 first, .slice A n c]]) (fun _ => rightB br first ps = true) ?_ ?_
  · repeat (first
    | refine x_seq ?_ | refine x_region ?_ | refine x_nil ?_ | refine x_block ?_ | refine x_skip ?_ | refine x_exit rfl ?_ | refine x_true rfl ?_ | refine x_false rfl ?_ | refine x_ret ?_ | refine x_tend ?_
    | refine x_off rfl rfl ?_ | refine x_off0 rfl ?_
    | refine x_op rfl (x_val (r_move rfl) rfl ?_)
    | refine x_op rfl (x_val (r_assign rfl) rfl ?_)
    | refine x_op rfl (x_val (r_extract rfl rfl) rfl ?_)
    | refine x_op rfl (x_val (r_pick_t rfl rfl) rfl ?_)
    | refine x_op rfl (x_val (r_pick_f rfl rfl) rfl ?_)
    | refine x_op rfl (x_val (r_fieldAddr (by assumption) rfl) rfl ?_)
    | refine x_op rfl (x_val (by first | exact r_own_add (i := 0) (by assumption) rfl rfl rfl | exact r_own_add (i := 1) (by assumption) rfl rfl rfl | exact r_own_add (i := 2) (by assumption) rfl rfl rfl | exact r_own_add (i := 3) (by assumption) rfl rfl rfl | exact r_own_add (i := 4) (by assumption) rfl rfl rfl | exact r_own_add (i := 5) (by assumption) rfl rfl rfl | exact r_own (i := 0) (by assumption) rfl rfl rfl | exact r_own (i := 1) (by assumption) rfl rfl rfl | exact r_own (i := 2) (by assumption) rfl rfl rfl | exact r_own (i := 3) (by assumption) rfl rfl rfl | exact r_own (i := 4) (by assumption) rfl rfl rfl | exact r_own (i := 5) (by assumption) rfl rfl rfl) rfl ?_)
    | refine x_op rfl (x_val (r_len_string (by assumption) rfl) rfl ?_)
    | refine x_op rfl (x_val (r_len_slice (by assumption) rfl) rfl ?_)
    | refine x_op rfl (x_val (r_cap_slice (by assumption) rfl) rfl ?_)
    | refine x_op rfl (x_val (r_not rfl rfl) rfl ?_)
    | refine x_op rfl (x_val (r_add rfl rfl ⟨by omega, by omega⟩) rfl ?_)
    | refine x_op rfl (x_val (r_sub rfl rfl ⟨by omega, by omega⟩) rfl ?_)
    | refine x_op rfl (x_val (r_build (by assumption) (by assumption) rfl rfl) rfl ?_)
    | refine x_op rfl (x_val (r_nilCheck rfl) rfl ?_)
    | refine x_op rfl (x_val (r_lss (r := true) rfl rfl (decide_eq_true (by omega))) rfl ?_)
    | refine x_op rfl (x_val (r_lss (r := false) rfl rfl (decide_eq_false (by omega))) rfl ?_)
    | refine x_op rfl (x_val (r_leq (r := true) rfl rfl (decide_eq_true (by omega))) rfl ?_)
    | refine x_op rfl (x_val (r_leq (r := false) rfl rfl (decide_eq_false (by omega))) rfl ?_)
    | refine x_op rfl (x_val (r_gtr (r := true) rfl rfl (decide_eq_true (by omega))) rfl ?_)
    | refine x_op rfl (x_val (r_gtr (r := false) rfl rfl (decide_eq_false (by omega))) rfl ?_)
    | refine x_op rfl (x_val (r_geq (r := true) rfl rfl (decide_eq_true (by omega))) rfl ?_)
    | refine x_op rfl (x_val (r_geq (r := false) rfl rfl (decide_eq_false (by omega))) rfl ?_)
    | refine x_op rfl (x_val (r_eql (r := true) rfl rfl (decide_eq_true (by omega))) rfl ?_)
    | refine x_op rfl (x_val (r_eql (r := false) rfl rfl (decide_eq_false (by omega))) rfl ?_)
    | refine x_op rfl (x_val (r_neq (r := true) rfl rfl (decide_eq_true (by omega))) rfl ?_)
    | refine x_op rfl (x_val (r_neq (r := false) rfl rfl (decide_eq_false (by omega))) rfl ?_)
    | refine x_op rfl (x_val (by first | exact r_ownN (i := 0) (by assumption) rfl rfl rfl | exact r_ownN (i := 1) (by assumption) rfl rfl rfl | exact r_ownN (i := 2) (by assumption) rfl rfl rfl | exact r_ownN (i := 3) (by assumption) rfl rfl rfl | exact r_ownN (i := 4) (by assumption) rfl rfl rfl | exact r_ownN (i := 5) (by assumption) rfl rfl rfl) rfl ?_)
    | refine x_op rfl (s_store (i := 0) (by assumption) rfl rfl rfl rfl rfl rfl ?_)
    | refine x_op rfl (s_store (i := 1) (by assumption) rfl rfl rfl rfl rfl rfl ?_)
    | refine x_op rfl (s_store (i := 2) (by assumption) rfl rfl rfl rfl rfl rfl ?_)
    | refine x_op rfl (s_store (i := 3) (by assumption) rfl rfl rfl rfl rfl rfl ?_)
    | refine x_op rfl (s_store (i := 4) (by assumption) rfl rfl rfl rfl rfl rfl ?_)
    | refine x_op rfl (s_store (i := 5) (by assumption) rfl rfl rfl rfl rfl rfl ?_)
    | refine x_op rfl (s_box rfl rfl fun b hb => ?_) | refine x_op rfl (s_alloc (by assumption) rfl fun b hb => ?_))
    refine x_op rfl (s_call Ty.c11 rfl rfl (fun w hw => right_ br first A n c ps w (hw.rd0 hr) hsz) (fun wq v wq1 hw h => ?_)); obtain ⟨rfl, hO⟩ := h; refine ⟨_, hw.call0 hO, ?_⟩
    cases hR : rightB br first ps
    · repeat (first
    | refine x_seq ?_ | refine x_region ?_ | refine x_nil ?_ | refine x_block ?_ | refine x_skip ?_ | refine x_exit rfl ?_ | refine x_true rfl ?_ | refine x_false rfl ?_ | refine x_ret ?_ | refine x_tend ?_
    | refine x_off rfl rfl ?_ | refine x_off0 rfl ?_
    | refine x_op rfl (x_val (r_move rfl) rfl ?_)
    | refine x_op rfl (x_val (r_assign rfl) rfl ?_)
    | refine x_op rfl (x_val (r_extract rfl rfl) rfl ?_)
    | refine x_op rfl (x_val (r_pick_t rfl rfl) rfl ?_)
    | refine x_op rfl (x_val (r_pick_f rfl rfl) rfl ?_)
    | refine x_op rfl (x_val (r_fieldAddr (by assumption) rfl) rfl ?_)
    | refine x_op rfl (x_val (by first | exact r_own_add (i := 0) (by assumption) rfl rfl rfl | exact r_own_add (i := 1) (by assumption) rfl rfl rfl | exact r_own_add (i := 2) (by assumption) rfl rfl rfl | exact r_own_add (i := 3) (by assumption) rfl rfl rfl | exact r_own_add (i := 4) (by assumption) rfl rfl rfl | exact r_own_add (i := 5) (by assumption) rfl rfl rfl | exact r_own (i := 0) (by assumption) rfl rfl rfl | exact r_own (i := 1) (by assumption) rfl rfl rfl | exact r_own (i := 2) (by assumption) rfl rfl rfl | exact r_own (i := 3) (by assumption) rfl rfl rfl | exact r_own (i := 4) (by assumption) rfl rfl rfl | exact r_own (i := 5) (by assumption) rfl rfl rfl) rfl ?_)
    | refine x_op rfl (x_val (r_len_string (by assumption) rfl) rfl ?_)
    | refine x_op rfl (x_val (r_len_slice (by assumption) rfl) rfl ?_)
    | refine x_op rfl (x_val (r_cap_slice (by assumption) rfl) rfl ?_)
    | refine x_op rfl (x_val (r_not rfl rfl) rfl ?_)
    | refine x_op rfl (x_val (r_add rfl rfl ⟨by omega, by omega⟩) rfl ?_)
    | refine x_op rfl (x_val (r_sub rfl rfl ⟨by omega, by omega⟩) rfl ?_)
    | refine x_op rfl (x_val (r_build (by assumption) (by assumption) rfl rfl) rfl ?_)
    | refine x_op rfl (x_val (r_nilCheck rfl) rfl ?_)
    | refine x_op rfl (x_val (r_lss (r := true) rfl rfl (decide_eq_true (by omega))) rfl ?_)
    | refine x_op rfl (x_val (r_lss (r := false) rfl rfl (decide_eq_false (by omega))) rfl ?_)
    | refine x_op rfl (x_val (r_leq (r := true) rfl rfl (decide_eq_true (by omega))) rfl ?_)
    | refine x_op rfl (x_val (r_leq (r := false) rfl rfl (decide_eq_false (by omega))) rfl ?_)
    | refine x_op rfl (x_val (r_gtr (r := true) rfl rfl (decide_eq_true (by omega))) rfl ?_)
    | refine x_op rfl (x_val (r_gtr (r := false) rfl rfl (decide_eq_false (by omega))) rfl ?_)
    | refine x_op rfl (x_val (r_geq (r := true) rfl rfl (decide_eq_true (by omega))) rfl ?_)
    | refine x_op rfl (x_val (r_geq (r := false) rfl rfl (decide_eq_false (by omega))) rfl ?_)
    | refine x_op rfl (x_val (r_eql (r := true) rfl rfl (decide_eq_true (by omega))) rfl ?_)
    | refine x_op rfl (x_val (r_eql (r := false) rfl rfl (decide_eq_false (by omega))) rfl ?_)
    | refine x_op rfl (x_val (r_neq (r := true) rfl rfl (decide_eq_true (by omega))) rfl ?_)
    | refine x_op rfl (x_val (r_neq (r := false) rfl rfl (decide_eq_false (by omega))) rfl ?_)
    | refine x_op rfl (x_val (by first | exact r_ownN (i := 0) (by assumption) rfl rfl rfl | exact r_ownN (i := 1) (by assumption) rfl rfl rfl | exact r_ownN (i := 2) (by assumption) rfl rfl rfl | exact r_ownN (i := 3) (by assumption) rfl rfl rfl | exact r_ownN (i := 4) (by assumption) rfl rfl rfl | exact r_ownN (i := 5) (by assumption) rfl rfl rfl) rfl ?_)
    | refine x_op rfl (s_store (i := 0) (by assumption) rfl rfl rfl rfl rfl rfl ?_)
    | refine x_op rfl (s_store (i := 1) (by assumption) rfl rfl rfl rfl rfl rfl ?_)
    | refine x_op rfl (s_store (i := 2) (by assumption) rfl rfl rfl rfl rfl rfl ?_)
    | refine x_op rfl (s_store (i := 3) (by assumption) rfl rfl rfl rfl rfl rfl ?_)
    | refine x_op rfl (s_store (i := 4) (by assumption) rfl rfl rfl rfl rfl rfl ?_)
    | refine x_op rfl (s_store (i := 5) (by assumption) rfl rfl rfl rfl rfl rfl ?_)
    | refine x_op rfl (s_box rfl rfl fun b hb => ?_) | refine x_op rfl (s_alloc (by assumption) rfl fun b hb => ?_))
      exact x_rets (rs := [_, _]) (vs := [_, _]) rfl ⟨res_own (i := 1) (cs := [.bool false, .int .i64 0, .slice none 0 0]) rfl rfl z26 rfl, rfl, res_own (i := 0) (cs := [.bool false, .int .i64 0, .slice none 0 0]) rfl rfl z26 rfl, rfl, trivial⟩ fun w1 hO => herr w1 _ 2 hO (by simp [splitF, Nd.right, hR])
    · repeat (first
    | refine x_seq ?_ | refine x_region ?_ | refine x_nil ?_ | refine x_block ?_ | refine x_skip ?_ | refine x_exit rfl ?_ | refine x_true rfl ?_ | refine x_false rfl ?_ | refine x_ret ?_ | refine x_tend ?_
    | refine x_off rfl rfl ?_ | refine x_off0 rfl ?_
    | refine x_op rfl (x_val (r_move rfl) rfl ?_)
    | refine x_op rfl (x_val (r_assign rfl) rfl ?_)
    | refine x_op rfl (x_val (r_extract rfl rfl) rfl ?_)
    | refine x_op rfl (x_val (r_pick_t rfl rfl) rfl ?_)
    | refine x_op rfl (x_val (r_pick_f rfl rfl) rfl ?_)
    | refine x_op rfl (x_val (r_fieldAddr (by assumption) rfl) rfl ?_)
    | refine x_op rfl (x_val (by first | exact r_own_add (i := 0) (by assumption) rfl rfl rfl | exact r_own_add (i := 1) (by assumption) rfl rfl rfl | exact r_own_add (i := 2) (by assumption) rfl rfl rfl | exact r_own_add (i := 3) (by assumption) rfl rfl rfl | exact r_own_add (i := 4) (by assumption) rfl rfl rfl | exact r_own_add (i := 5) (by assumption) rfl rfl rfl | exact r_own (i := 0) (by assumption) rfl rfl rfl | exact r_own (i := 1) (by assumption) rfl rfl rfl | exact r_own (i := 2) (by assumption) rfl rfl rfl | exact r_own (i := 3) (by assumption) rfl rfl rfl | exact r_own (i := 4) (by assumption) rfl rfl rfl | exact r_own (i := 5) (by assumption) rfl rfl rfl) rfl ?_)
    | refine x_op rfl (x_val (r_len_string (by assumption) rfl) rfl ?_)
    | refine x_op rfl (x_val (r_len_slice (by assumption) rfl) rfl ?_)
    | refine x_op rfl (x_val (r_cap_slice (by assumption) rfl) rfl ?_)
    | refine x_op rfl (x_val (r_not rfl rfl) rfl ?_)
    | refine x_op rfl (x_val (r_add rfl rfl ⟨by omega, by omega⟩) rfl ?_)
    | refine x_op rfl (x_val (r_sub rfl rfl ⟨by omega, by omega⟩) rfl ?_)
    | refine x_op rfl (x_val (r_build (by assumption) (by assumption) rfl rfl) rfl ?_)
    | refine x_op rfl (x_val (r_nilCheck rfl) rfl ?_)
    | refine x_op rfl (x_val (r_lss (r := true) rfl rfl (decide_eq_true (by omega))) rfl ?_)
    | refine x_op rfl (x_val (r_lss (r := false) rfl rfl (decide_eq_false (by omega))) rfl ?_)
    | refine x_op rfl (x_val (r_leq (r := true) rfl rfl (decide_eq_true (by omega))) rfl ?_)
    | refine x_op rfl (x_val (r_leq (r := false) rfl rfl (decide_eq_false (by omega))) rfl ?_)
    | refine x_op rfl (x_val (r_gtr (r := true) rfl rfl (decide_eq_true (by omega))) rfl ?_)
    | refine x_op rfl (x_val (r_gtr (r := false) rfl rfl (decide_eq_false (by omega))) rfl ?_)
    | refine x_op rfl (x_val (r_geq (r := true) rfl rfl (decide_eq_true (by omega))) rfl ?_)
    | refine x_op rfl (x_val (r_geq (r := false) rfl rfl (decide_eq_false (by omega))) rfl ?_)
    | refine x_op rfl (x_val (r_eql (r := true) rfl rfl (decide_eq_true (by omega))) rfl ?_)
    | refine x_op rfl (x_val (r_eql (r := false) rfl rfl (decide_eq_false (by omega))) rfl ?_)
    | refine x_op rfl (x_val (r_neq (r := true) rfl rfl (decide_eq_true (by omega))) rfl ?_)
    | refine x_op rfl (x_val (r_neq (r := false) rfl rfl (decide_eq_false (by omega))) rfl ?_)
    | refine x_op rfl (x_val (by first | exact r_ownN (i := 0) (by assumption) rfl rfl rfl | exact r_ownN (i := 1) (by assumption) rfl rfl rfl | exact r_ownN (i := 2) (by assumption) rfl rfl rfl | exact r_ownN (i := 3) (by assumption) rfl rfl rfl | exact r_ownN (i := 4) (by assumption) rfl rfl rfl | exact r_ownN (i := 5) (by assumption) rfl rfl rfl) rfl ?_)
    | refine x_op rfl (s_store (i := 0) (by assumption) rfl rfl rfl rfl rfl rfl ?_)
    | refine x_op rfl (s_store (i := 1) (by assumption) rfl rfl rfl rfl rfl rfl ?_)
    | refine x_op rfl (s_store (i := 2) (by assumption) rfl rfl rfl rfl rfl rfl ?_)
    | refine x_op rfl (s_store (i := 3) (by assumption) rfl rfl rfl rfl rfl rfl ?_)
    | refine x_op rfl (s_store (i := 4) (by assumption) rfl rfl rfl rfl rfl rfl ?_)
    | refine x_op rfl (s_store (i := 5) (by assumption) rfl rfl rfl rfl rfl rfl ?_)
    | refine x_op rfl (s_box rfl rfl fun b hb => ?_) | refine x_op rfl (s_alloc (by assumption) rfl fun b hb => ?_))
      exact x_there ⟨_, _, _⟩ ⟨rfl, rfl, rfl, trivial⟩ (fun _ h => h) rfl
  rintro ⟨b0, b2, b4⟩ hR
  have hN : (⟨br, first, ps⟩ : Nd).right = true := hR
  have hsp := right_spec hN
  have hsm := right_small hN
  have hn255 : n ≤ 255 := by rw [← hlen]; exact hsp.1
  simp only []
  refine x_seq ?_
  repeat (first
    | refine x_region ?_ | refine x_nil ?_ | refine x_tend ?_
    | refine x_off rfl rfl ?_ | refine x_off0 rfl ?_
    | refine x_op rfl (x_val (r_move rfl) rfl ?_)
    | refine x_op rfl (x_val (r_assign rfl) rfl ?_)
    | refine x_op rfl (x_val (r_extract rfl rfl) rfl ?_)
    | refine x_op rfl (x_val (r_pick_t rfl rfl) rfl ?_)
    | refine x_op rfl (x_val (r_pick_f rfl rfl) rfl ?_)
    | refine x_op rfl (x_val (r_fieldAddr (by assumption) rfl) rfl ?_)
    | refine x_op rfl (x_val (by first | exact r_own_add (i := 0) (by assumption) rfl rfl rfl | exact r_own_add (i := 1) (by assumption) rfl rfl rfl | exact r_own_add (i := 2) (by assumption) rfl rfl rfl | exact r_own_add (i := 3) (by assumption) rfl rfl rfl | exact r_own_add (i := 4) (by assumption) rfl rfl rfl | exact r_own_add (i := 5) (by assumption) rfl rfl rfl | exact r_own (i := 0) (by assumption) rfl rfl rfl | exact r_own (i := 1) (by assumption) rfl rfl rfl | exact r_own (i := 2) (by assumption) rfl rfl rfl | exact r_own (i := 3) (by assumption) rfl rfl rfl | exact r_own (i := 4) (by assumption) rfl rfl rfl | exact r_own (i := 5) (by assumption) rfl rfl rfl) rfl ?_)
    | refine x_op rfl (x_val (r_len_string (by assumption) rfl) rfl ?_)
    | refine x_op rfl (x_val (r_len_slice (by assumption) rfl) rfl ?_)
    | refine x_op rfl (x_val (r_cap_slice (by assumption) rfl) rfl ?_)
    | refine x_op rfl (x_val (r_not rfl rfl) rfl ?_)
    | refine x_op rfl (x_val (r_add rfl rfl ⟨by omega, by omega⟩) rfl ?_)
    | refine x_op rfl (x_val (r_sub rfl rfl ⟨by omega, by omega⟩) rfl ?_)
    | refine x_op rfl (x_val (r_build (by assumption) (by assumption) rfl rfl) rfl ?_)
    | refine x_op rfl (x_val (r_nilCheck rfl) rfl ?_)
    | refine x_op rfl (x_val (r_lss (r := true) rfl rfl (decide_eq_true (by omega))) rfl ?_)
    | refine x_op rfl (x_val (r_lss (r := false) rfl rfl (decide_eq_false (by omega))) rfl ?_)
    | refine x_op rfl (x_val (r_leq (r := true) rfl rfl (decide_eq_true (by omega))) rfl ?_)
    | refine x_op rfl (x_val (r_leq (r := false) rfl rfl (decide_eq_false (by omega))) rfl ?_)
    | refine x_op rfl (x_val (r_gtr (r := true) rfl rfl (decide_eq_true (by omega))) rfl ?_)
    | refine x_op rfl (x_val (r_gtr (r := false) rfl rfl (decide_eq_false (by omega))) rfl ?_)
    | refine x_op rfl (x_val (r_geq (r := true) rfl rfl (decide_eq_true (by omega))) rfl ?_)
    | refine x_op rfl (x_val (r_geq (r := false) rfl rfl (decide_eq_false (by omega))) rfl ?_)
    | refine x_op rfl (x_val (r_eql (r := true) rfl rfl (decide_eq_true (by omega))) rfl ?_)
    | refine x_op rfl (x_val (r_eql (r := false) rfl rfl (decide_eq_false (by omega))) rfl ?_)
    | refine x_op rfl (x_val (r_neq (r := true) rfl rfl (decide_eq_true (by omega))) rfl ?_)
    | refine x_op rfl (x_val (r_neq (r := false) rfl rfl (decide_eq_false (by omega))) rfl ?_)
    | refine x_op rfl (x_val (by first | exact r_ownN (i := 0) (by assumption) rfl rfl rfl | exact r_ownN (i := 1) (by assumption) rfl rfl rfl | exact r_ownN (i := 2) (by assumption) rfl rfl rfl | exact r_ownN (i := 3) (by assumption) rfl rfl rfl | exact r_ownN (i := 4) (by assumption) rfl rfl rfl | exact r_ownN (i := 5) (by assumption) rfl rfl rfl) rfl ?_)
    | refine x_op rfl (s_store (i := 0) (by assumption) rfl rfl rfl rfl rfl rfl ?_)
    | refine x_op rfl (s_store (i := 1) (by assumption) rfl rfl rfl rfl rfl rfl ?_)
    | refine x_op rfl (s_store (i := 2) (by assumption) rfl rfl rfl rfl rfl rfl ?_)
    | refine x_op rfl (s_store (i := 3) (by assumption) rfl rfl rfl rfl rfl rfl ?_)
    | refine x_op rfl (s_store (i := 4) (by assumption) rfl rfl rfl rfl rfl rfl ?_)
    | refine x_op rfl (s_store (i := 5) (by assumption) rfl rfl rfl rfl rfl rfl ?_)
    | refine x_op rfl (s_box rfl rfl fun b hb => ?_) | refine x_op rfl (s_alloc (by assumption) rfl fun b hb => ?_))
  obtain ⟨top, htop⟩ : ∃ t, t = (⟨br, first, ps⟩ : Nd).top := ⟨_, rfl⟩
  have htop' : top = (n : Int) - 1 - (if br then 1 else 0) := by rw [htop]; simp [Nd.top, hlen]
  refine x_cut (σ := Unit) (fun _ => [(1, .pointer (some ⟨b0, 0, none⟩)), (2, .pointer (some ⟨b2, 0, none⟩)), (4, .pointer (some ⟨b4, 0, none⟩)), (6, .int .i64 top)])
    (fun _ => [bl b4 26 #[.bool false, .int .i64 0, .slice none 0 0], bl b2 26 #[.bool false, .int .i64 0, .slice none 0 0], bl b0 26 #[.bool br, .int .i64 first, .slice A n c]]) (fun _ => True) ?_ (fun _ _ => ?_)
  · cases br
    · repeat (first
    | refine x_seq ?_ | refine x_region ?_ | refine x_nil ?_ | refine x_block ?_ | refine x_skip ?_ | refine x_exit rfl ?_ | refine x_true rfl ?_ | refine x_false rfl ?_ | refine x_ret ?_ | refine x_tend ?_
    | refine x_off rfl rfl ?_ | refine x_off0 rfl ?_
    | refine x_op rfl (x_val (r_move rfl) rfl ?_)
    | refine x_op rfl (x_val (r_assign rfl) rfl ?_)
    | refine x_op rfl (x_val (r_extract rfl rfl) rfl ?_)
    | refine x_op rfl (x_val (r_pick_t rfl rfl) rfl ?_)
    | refine x_op rfl (x_val (r_pick_f rfl rfl) rfl ?_)
    | refine x_op rfl (x_val (r_fieldAddr (by assumption) rfl) rfl ?_)
    | refine x_op rfl (x_val (by first | exact r_own_add (i := 0) (by assumption) rfl rfl rfl | exact r_own_add (i := 1) (by assumption) rfl rfl rfl | exact r_own_add (i := 2) (by assumption) rfl rfl rfl | exact r_own_add (i := 3) (by assumption) rfl rfl rfl | exact r_own_add (i := 4) (by assumption) rfl rfl rfl | exact r_own_add (i := 5) (by assumption) rfl rfl rfl | exact r_own (i := 0) (by assumption) rfl rfl rfl | exact r_own (i := 1) (by assumption) rfl rfl rfl | exact r_own (i := 2) (by assumption) rfl rfl rfl | exact r_own (i := 3) (by assumption) rfl rfl rfl | exact r_own (i := 4) (by assumption) rfl rfl rfl | exact r_own (i := 5) (by assumption) rfl rfl rfl) rfl ?_)
    | refine x_op rfl (x_val (r_len_string (by assumption) rfl) rfl ?_)
    | refine x_op rfl (x_val (r_len_slice (by assumption) rfl) rfl ?_)
    | refine x_op rfl (x_val (r_cap_slice (by assumption) rfl) rfl ?_)
    | refine x_op rfl (x_val (r_not rfl rfl) rfl ?_)
    | refine x_op rfl (x_val (r_add rfl rfl ⟨by omega, by omega⟩) rfl ?_)
    | refine x_op rfl (x_val (r_sub rfl rfl ⟨by omega, by omega⟩) rfl ?_)
    | refine x_op rfl (x_val (r_build (by assumption) (by assumption) rfl rfl) rfl ?_)
    | refine x_op rfl (x_val (r_nilCheck rfl) rfl ?_)
    | refine x_op rfl (x_val (r_lss (r := true) rfl rfl (decide_eq_true (by omega))) rfl ?_)
    | refine x_op rfl (x_val (r_lss (r := false) rfl rfl (decide_eq_false (by omega))) rfl ?_)
    | refine x_op rfl (x_val (r_leq (r := true) rfl rfl (decide_eq_true (by omega))) rfl ?_)
    | refine x_op rfl (x_val (r_leq (r := false) rfl rfl (decide_eq_false (by omega))) rfl ?_)
    | refine x_op rfl (x_val (r_gtr (r := true) rfl rfl (decide_eq_true (by omega))) rfl ?_)
    | refine x_op rfl (x_val (r_gtr (r := false) rfl rfl (decide_eq_false (by omega))) rfl ?_)
    | refine x_op rfl (x_val (r_geq (r := true) rfl rfl (decide_eq_true (by omega))) rfl ?_)
    | refine x_op rfl (x_val (r_geq (r := false) rfl rfl (decide_eq_false (by omega))) rfl ?_)
    | refine x_op rfl (x_val (r_eql (r := true) rfl rfl (decide_eq_true (by omega))) rfl ?_)
    | refine x_op rfl (x_val (r_eql (r := false) rfl rfl (decide_eq_false (by omega))) rfl ?_)
    | refine x_op rfl (x_val (r_neq (r := true) rfl rfl (decide_eq_true (by omega))) rfl ?_)
    | refine x_op rfl (x_val (r_neq (r := false) rfl rfl (decide_eq_false (by omega))) rfl ?_)
    | refine x_op rfl (x_val (by first | exact r_ownN (i := 0) (by assumption) rfl rfl rfl | exact r_ownN (i := 1) (by assumption) rfl rfl rfl | exact r_ownN (i := 2) (by assumption) rfl rfl rfl | exact r_ownN (i := 3) (by assumption) rfl rfl rfl | exact r_ownN (i := 4) (by assumption) rfl rfl rfl | exact r_ownN (i := 5) (by assumption) rfl rfl rfl) rfl ?_)
    | refine x_op rfl (s_store (i := 0) (by assumption) rfl rfl rfl rfl rfl rfl ?_)
    | refine x_op rfl (s_store (i := 1) (by assumption) rfl rfl rfl rfl rfl rfl ?_)
    | refine x_op rfl (s_store (i := 2) (by assumption) rfl rfl rfl rfl rfl rfl ?_)
    | refine x_op rfl (s_store (i := 3) (by assumption) rfl rfl rfl rfl rfl rfl ?_)
    | refine x_op rfl (s_store (i := 4) (by assumption) rfl rfl rfl rfl rfl rfl ?_)
    | refine x_op rfl (s_store (i := 5) (by assumption) rfl rfl rfl rfl rfl rfl ?_)
    | refine x_op rfl (s_box rfl rfl fun b hb => ?_) | refine x_op rfl (s_alloc (by assumption) rfl fun b hb => ?_))
      exact x_there () ⟨rfl, rfl, rfl, by rw [htop']; simp; rfl, trivial⟩ (fun _ h => h) trivial
    · repeat (first
    | refine x_seq ?_ | refine x_region ?_ | refine x_nil ?_ | refine x_block ?_ | refine x_skip ?_ | refine x_exit rfl ?_ | refine x_true rfl ?_ | refine x_false rfl ?_ | refine x_ret ?_ | refine x_tend ?_
    | refine x_off rfl rfl ?_ | refine x_off0 rfl ?_
    | refine x_op rfl (x_val (r_move rfl) rfl ?_)
    | refine x_op rfl (x_val (r_assign rfl) rfl ?_)
    | refine x_op rfl (x_val (r_extract rfl rfl) rfl ?_)
    | refine x_op rfl (x_val (r_pick_t rfl rfl) rfl ?_)
    | refine x_op rfl (x_val (r_pick_f rfl rfl) rfl ?_)
    | refine x_op rfl (x_val (r_fieldAddr (by assumption) rfl) rfl ?_)
    | refine x_op rfl (x_val (by first | exact r_own_add (i := 0) (by assumption) rfl rfl rfl | exact r_own_add (i := 1) (by assumption) rfl rfl rfl | exact r_own_add (i := 2) (by assumption) rfl rfl rfl | exact r_own_add (i := 3) (by assumption) rfl rfl rfl | exact r_own_add (i := 4) (by assumption) rfl rfl rfl | exact r_own_add (i := 5) (by assumption) rfl rfl rfl | exact r_own (i := 0) (by assumption) rfl rfl rfl | exact r_own (i := 1) (by assumption) rfl rfl rfl | exact r_own (i := 2) (by assumption) rfl rfl rfl | exact r_own (i := 3) (by assumption) rfl rfl rfl | exact r_own (i := 4) (by assumption) rfl rfl rfl | exact r_own (i := 5) (by assumption) rfl rfl rfl) rfl ?_)
    | refine x_op rfl (x_val (r_len_string (by assumption) rfl) rfl ?_)
    | refine x_op rfl (x_val (r_len_slice (by assumption) rfl) rfl ?_)
    | refine x_op rfl (x_val (r_cap_slice (by assumption) rfl) rfl ?_)
    | refine x_op rfl (x_val (r_not rfl rfl) rfl ?_)
    | refine x_op rfl (x_val (r_add rfl rfl ⟨by omega, by omega⟩) rfl ?_)
    | refine x_op rfl (x_val (r_sub rfl rfl ⟨by omega, by omega⟩) rfl ?_)
    | refine x_op rfl (x_val (r_build (by assumption) (by assumption) rfl rfl) rfl ?_)
    | refine x_op rfl (x_val (r_nilCheck rfl) rfl ?_)
    | refine x_op rfl (x_val (r_lss (r := true) rfl rfl (decide_eq_true (by omega))) rfl ?_)
    | refine x_op rfl (x_val (r_lss (r := false) rfl rfl (decide_eq_false (by omega))) rfl ?_)
    | refine x_op rfl (x_val (r_leq (r := true) rfl rfl (decide_eq_true (by omega))) rfl ?_)
    | refine x_op rfl (x_val (r_leq (r := false) rfl rfl (decide_eq_false (by omega))) rfl ?_)
    | refine x_op rfl (x_val (r_gtr (r := true) rfl rfl (decide_eq_true (by omega))) rfl ?_)
    | refine x_op rfl (x_val (r_gtr (r := false) rfl rfl (decide_eq_false (by omega))) rfl ?_)
    | refine x_op rfl (x_val (r_geq (r := true) rfl rfl (decide_eq_true (by omega))) rfl ?_)
    | refine x_op rfl (x_val (r_geq (r := false) rfl rfl (decide_eq_false (by omega))) rfl ?_)
    | refine x_op rfl (x_val (r_eql (r := true) rfl rfl (decide_eq_true (by omega))) rfl ?_)
    | refine x_op rfl (x_val (r_eql (r := false) rfl rfl (decide_eq_false (by omega))) rfl ?_)
    | refine x_op rfl (x_val (r_neq (r := true) rfl rfl (decide_eq_true (by omega))) rfl ?_)
    | refine x_op rfl (x_val (r_neq (r := false) rfl rfl (decide_eq_false (by omega))) rfl ?_)
    | refine x_op rfl (x_val (by first | exact r_ownN (i := 0) (by assumption) rfl rfl rfl | exact r_ownN (i := 1) (by assumption) rfl rfl rfl | exact r_ownN (i := 2) (by assumption) rfl rfl rfl | exact r_ownN (i := 3) (by assumption) rfl rfl rfl | exact r_ownN (i := 4) (by assumption) rfl rfl rfl | exact r_ownN (i := 5) (by assumption) rfl rfl rfl) rfl ?_)
    | refine x_op rfl (s_store (i := 0) (by assumption) rfl rfl rfl rfl rfl rfl ?_)
    | refine x_op rfl (s_store (i := 1) (by assumption) rfl rfl rfl rfl rfl rfl ?_)
    | refine x_op rfl (s_store (i := 2) (by assumption) rfl rfl rfl rfl rfl rfl ?_)
    | refine x_op rfl (s_store (i := 3) (by assumption) rfl rfl rfl rfl rfl rfl ?_)
    | refine x_op rfl (s_store (i := 4) (by assumption) rfl rfl rfl rfl rfl rfl ?_)
    | refine x_op rfl (s_store (i := 5) (by assumption) rfl rfl rfl rfl rfl rfl ?_)
    | refine x_op rfl (s_box rfl rfl fun b hb => ?_) | refine x_op rfl (s_alloc (by assumption) rfl fun b hb => ?_))
      exact x_there () ⟨rfl, rfl, rfl, by rw [htop']; simp; rfl, trivial⟩ (fun _ h => h) trivial
  repeat (first
    | refine x_seq ?_ | refine x_region ?_ | refine x_nil ?_ | refine x_block ?_ | refine x_skip ?_ | refine x_exit rfl ?_ | refine x_true rfl ?_ | refine x_false rfl ?_ | refine x_ret ?_ | refine x_tend ?_
    | refine x_off rfl rfl ?_ | refine x_off0 rfl ?_
    | refine x_op rfl (x_val (r_move rfl) rfl ?_)
    | refine x_op rfl (x_val (r_assign rfl) rfl ?_)
    | refine x_op rfl (x_val (r_extract rfl rfl) rfl ?_)
    | refine x_op rfl (x_val (r_pick_t rfl rfl) rfl ?_)
    | refine x_op rfl (x_val (r_pick_f rfl rfl) rfl ?_)
    | refine x_op rfl (x_val (r_fieldAddr (by assumption) rfl) rfl ?_)
    | refine x_op rfl (x_val (by first | exact r_own_add (i := 0) (by assumption) rfl rfl rfl | exact r_own_add (i := 1) (by assumption) rfl rfl rfl | exact r_own_add (i := 2) (by assumption) rfl rfl rfl | exact r_own_add (i := 3) (by assumption) rfl rfl rfl | exact r_own_add (i := 4) (by assumption) rfl rfl rfl | exact r_own_add (i := 5) (by assumption) rfl rfl rfl | exact r_own (i := 0) (by assumption) rfl rfl rfl | exact r_own (i := 1) (by assumption) rfl rfl rfl | exact r_own (i := 2) (by assumption) rfl rfl rfl | exact r_own (i := 3) (by assumption) rfl rfl rfl | exact r_own (i := 4) (by assumption) rfl rfl rfl | exact r_own (i := 5) (by assumption) rfl rfl rfl) rfl ?_)
    | refine x_op rfl (x_val (r_len_string (by assumption) rfl) rfl ?_)
    | refine x_op rfl (x_val (r_len_slice (by assumption) rfl) rfl ?_)
    | refine x_op rfl (x_val (r_cap_slice (by assumption) rfl) rfl ?_)
    | refine x_op rfl (x_val (r_not rfl rfl) rfl ?_)
    | refine x_op rfl (x_val (r_add rfl rfl ⟨by omega, by omega⟩) rfl ?_)
    | refine x_op rfl (x_val (r_sub rfl rfl ⟨by omega, by omega⟩) rfl ?_)
    | refine x_op rfl (x_val (r_build (by assumption) (by assumption) rfl rfl) rfl ?_)
    | refine x_op rfl (x_val (r_nilCheck rfl) rfl ?_)
    | refine x_op rfl (x_val (r_lss (r := true) rfl rfl (decide_eq_true (by omega))) rfl ?_)
    | refine x_op rfl (x_val (r_lss (r := false) rfl rfl (decide_eq_false (by omega))) rfl ?_)
    | refine x_op rfl (x_val (r_leq (r := true) rfl rfl (decide_eq_true (by omega))) rfl ?_)
    | refine x_op rfl (x_val (r_leq (r := false) rfl rfl (decide_eq_false (by omega))) rfl ?_)
    | refine x_op rfl (x_val (r_gtr (r := true) rfl rfl (decide_eq_true (by omega))) rfl ?_)
    | refine x_op rfl (x_val (r_gtr (r := false) rfl rfl (decide_eq_false (by omega))) rfl ?_)
    | refine x_op rfl (x_val (r_geq (r := true) rfl rfl (decide_eq_true (by omega))) rfl ?_)
    | refine x_op rfl (x_val (r_geq (r := false) rfl rfl (decide_eq_false (by omega))) rfl ?_)
    | refine x_op rfl (x_val (r_eql (r := true) rfl rfl (decide_eq_true (by omega))) rfl ?_)
    | refine x_op rfl (x_val (r_eql (r := false) rfl rfl (decide_eq_false (by omega))) rfl ?_)
    | refine x_op rfl (x_val (r_neq (r := true) rfl rfl (decide_eq_true (by omega))) rfl ?_)
    | refine x_op rfl (x_val (r_neq (r := false) rfl rfl (decide_eq_false (by omega))) rfl ?_)
    | refine x_op rfl (x_val (by first | exact r_ownN (i := 0) (by assumption) rfl rfl rfl | exact r_ownN (i := 1) (by assumption) rfl rfl rfl | exact r_ownN (i := 2) (by assumption) rfl rfl rfl | exact r_ownN (i := 3) (by assumption) rfl rfl rfl | exact r_ownN (i := 4) (by assumption) rfl rfl rfl | exact r_ownN (i := 5) (by assumption) rfl rfl rfl) rfl ?_)
    | refine x_op rfl (s_store (i := 0) (by assumption) rfl rfl rfl rfl rfl rfl ?_)
    | refine x_op rfl (s_store (i := 1) (by assumption) rfl rfl rfl rfl rfl rfl ?_)
    | refine x_op rfl (s_store (i := 2) (by assumption) rfl rfl rfl rfl rfl rfl ?_)
    | refine x_op rfl (s_store (i := 3) (by assumption) rfl rfl rfl rfl rfl rfl ?_)
    | refine x_op rfl (s_store (i := 4) (by assumption) rfl rfl rfl rfl rfl rfl ?_)
    | refine x_op rfl (s_store (i := 5) (by assumption) rfl rfl rfl rfl rfl rfl ?_)
    | refine x_op rfl (s_box rfl rfl fun b hb => ?_) | refine x_op rfl (s_alloc (by assumption) rfl fun b hb => ?_))
  refine x_op rfl (x_val (r_lss rfl rfl rfl) rfl (x_dec (fun hb => ?_) (fun hb => ?_)))
  · have h1 : (⟨br, first, ps⟩ : Nd).top < 1 := by rw [← htop]; omega
    have h2 : splitF ⟨br, first, ps⟩ = (.zero, emptyB, .zero, 1) := by simp [splitF, hN, h1]
    repeat (first
    | refine x_seq ?_ | refine x_region ?_ | refine x_nil ?_ | refine x_block ?_ | refine x_skip ?_ | refine x_exit rfl ?_ | refine x_true rfl ?_ | refine x_false rfl ?_ | refine x_ret ?_ | refine x_tend ?_
    | refine x_off rfl rfl ?_ | refine x_off0 rfl ?_
    | refine x_op rfl (x_val (r_move rfl) rfl ?_)
    | refine x_op rfl (x_val (r_assign rfl) rfl ?_)
    | refine x_op rfl (x_val (r_extract rfl rfl) rfl ?_)
    | refine x_op rfl (x_val (r_pick_t rfl rfl) rfl ?_)
    | refine x_op rfl (x_val (r_pick_f rfl rfl) rfl ?_)
    | refine x_op rfl (x_val (r_fieldAddr (by assumption) rfl) rfl ?_)
    | refine x_op rfl (x_val (by first | exact r_own_add (i := 0) (by assumption) rfl rfl rfl | exact r_own_add (i := 1) (by assumption) rfl rfl rfl | exact r_own_add (i := 2) (by assumption) rfl rfl rfl | exact r_own_add (i := 3) (by assumption) rfl rfl rfl | exact r_own_add (i := 4) (by assumption) rfl rfl rfl | exact r_own_add (i := 5) (by assumption) rfl rfl rfl | exact r_own (i := 0) (by assumption) rfl rfl rfl | exact r_own (i := 1) (by assumption) rfl rfl rfl | exact r_own (i := 2) (by assumption) rfl rfl rfl | exact r_own (i := 3) (by assumption) rfl rfl rfl | exact r_own (i := 4) (by assumption) rfl rfl rfl | exact r_own (i := 5) (by assumption) rfl rfl rfl) rfl ?_)
    | refine x_op rfl (x_val (r_len_string (by assumption) rfl) rfl ?_)
    | refine x_op rfl (x_val (r_len_slice (by assumption) rfl) rfl ?_)
    | refine x_op rfl (x_val (r_cap_slice (by assumption) rfl) rfl ?_)
    | refine x_op rfl (x_val (r_not rfl rfl) rfl ?_)
    | refine x_op rfl (x_val (r_add rfl rfl ⟨by omega, by omega⟩) rfl ?_)
    | refine x_op rfl (x_val (r_sub rfl rfl ⟨by omega, by omega⟩) rfl ?_)
    | refine x_op rfl (x_val (r_build (by assumption) (by assumption) rfl rfl) rfl ?_)
    | refine x_op rfl (x_val (r_nilCheck rfl) rfl ?_)
    | refine x_op rfl (x_val (r_lss (r := true) rfl rfl (decide_eq_true (by omega))) rfl ?_)
    | refine x_op rfl (x_val (r_lss (r := false) rfl rfl (decide_eq_false (by omega))) rfl ?_)
    | refine x_op rfl (x_val (r_leq (r := true) rfl rfl (decide_eq_true (by omega))) rfl ?_)
    | refine x_op rfl (x_val (r_leq (r := false) rfl rfl (decide_eq_false (by omega))) rfl ?_)
    | refine x_op rfl (x_val (r_gtr (r := true) rfl rfl (decide_eq_true (by omega))) rfl ?_)
    | refine x_op rfl (x_val (r_gtr (r := false) rfl rfl (decide_eq_false (by omega))) rfl ?_)
    | refine x_op rfl (x_val (r_geq (r := true) rfl rfl (decide_eq_true (by omega))) rfl ?_)
    | refine x_op rfl (x_val (r_geq (r := false) rfl rfl (decide_eq_false (by omega))) rfl ?_)
    | refine x_op rfl (x_val (r_eql (r := true) rfl rfl (decide_eq_true (by omega))) rfl ?_)
    | refine x_op rfl (x_val (r_eql (r := false) rfl rfl (decide_eq_false (by omega))) rfl ?_)
    | refine x_op rfl (x_val (r_neq (r := true) rfl rfl (decide_eq_true (by omega))) rfl ?_)
    | refine x_op rfl (x_val (r_neq (r := false) rfl rfl (decide_eq_false (by omega))) rfl ?_)
    | refine x_op rfl (x_val (by first | exact r_ownN (i := 0) (by assumption) rfl rfl rfl | exact r_ownN (i := 1) (by assumption) rfl rfl rfl | exact r_ownN (i := 2) (by assumption) rfl rfl rfl | exact r_ownN (i := 3) (by assumption) rfl rfl rfl | exact r_ownN (i := 4) (by assumption) rfl rfl rfl | exact r_ownN (i := 5) (by assumption) rfl rfl rfl) rfl ?_)
    | refine x_op rfl (s_store (i := 0) (by assumption) rfl rfl rfl rfl rfl rfl ?_)
    | refine x_op rfl (s_store (i := 1) (by assumption) rfl rfl rfl rfl rfl rfl ?_)
    | refine x_op rfl (s_store (i := 2) (by assumption) rfl rfl rfl rfl rfl rfl ?_)
    | refine x_op rfl (s_store (i := 3) (by assumption) rfl rfl rfl rfl rfl rfl ?_)
    | refine x_op rfl (s_store (i := 4) (by assumption) rfl rfl rfl rfl rfl rfl ?_)
    | refine x_op rfl (s_store (i := 5) (by assumption) rfl rfl rfl rfl rfl rfl ?_)
    | refine x_op rfl (s_box rfl rfl fun b hb => ?_) | refine x_op rfl (s_alloc (by assumption) rfl fun b hb => ?_))
    exact x_rets (rs := [_, _]) (vs := [_, _]) rfl ⟨res_own (i := 1) (cs := [.bool false, .int .i64 0, .slice none 0 0]) rfl rfl z26 rfl, rfl, res_own (i := 0) (cs := [.bool false, .int .i64 0, .slice none 0 0]) rfl rfl z26 rfl, rfl, trivial⟩ fun w1 hO => herr w1 _ 1 hO h2
  have htop1 : 1 ≤ top := by omega
  have htopn : top < n := by cases br <;> simp at htop' <;> omega
  have hn0 : 0 < n := by omega
  obtain ⟨ad, rfl⟩ := hr.some_ hn0
  have hszn : sz ps ≤ 8194 * 255 := by have := sz_le ps hsm; have := hsp.1; simp only [] at this; omega
  have hsz0 := sz_nonneg ps
  have hc0 : ps[0]? = some (ps[0]'(by omega)) := List.getElem?_eq_getElem _
  generalize ps[0]'(by omega) = p0 at hc0
  have hsp0 := hsm p0 (List.mem_of_getElem? hc0)
  have hst0 := sz_take hc0
  unfold smallPr at hsp0
  repeat (first
    | refine x_seq ?_ | refine x_region ?_ | refine x_nil ?_ | refine x_block ?_ | refine x_skip ?_ | refine x_exit rfl ?_ | refine x_true rfl ?_ | refine x_false rfl ?_ | refine x_ret ?_ | refine x_tend ?_
    | refine x_off rfl rfl ?_ | refine x_off0 rfl ?_
    | refine x_op rfl (x_val (r_move rfl) rfl ?_)
    | refine x_op rfl (x_val (r_assign rfl) rfl ?_)
    | refine x_op rfl (x_val (r_extract rfl rfl) rfl ?_)
    | refine x_op rfl (x_val (r_pick_t rfl rfl) rfl ?_)
    | refine x_op rfl (x_val (r_pick_f rfl rfl) rfl ?_)
    | refine x_op rfl (x_val (r_fieldAddr (by assumption) rfl) rfl ?_)
    | refine x_op rfl (x_val (by first | exact r_own_add (i := 0) (by assumption) rfl rfl rfl | exact r_own_add (i := 1) (by assumption) rfl rfl rfl | exact r_own_add (i := 2) (by assumption) rfl rfl rfl | exact r_own_add (i := 3) (by assumption) rfl rfl rfl | exact r_own_add (i := 4) (by assumption) rfl rfl rfl | exact r_own_add (i := 5) (by assumption) rfl rfl rfl | exact r_own (i := 0) (by assumption) rfl rfl rfl | exact r_own (i := 1) (by assumption) rfl rfl rfl | exact r_own (i := 2) (by assumption) rfl rfl rfl | exact r_own (i := 3) (by assumption) rfl rfl rfl | exact r_own (i := 4) (by assumption) rfl rfl rfl | exact r_own (i := 5) (by assumption) rfl rfl rfl) rfl ?_)
    | refine x_op rfl (x_val (r_len_string (by assumption) rfl) rfl ?_)
    | refine x_op rfl (x_val (r_len_slice (by assumption) rfl) rfl ?_)
    | refine x_op rfl (x_val (r_cap_slice (by assumption) rfl) rfl ?_)
    | refine x_op rfl (x_val (r_not rfl rfl) rfl ?_)
    | refine x_op rfl (x_val (r_add rfl rfl ⟨by omega, by omega⟩) rfl ?_)
    | refine x_op rfl (x_val (r_sub rfl rfl ⟨by omega, by omega⟩) rfl ?_)
    | refine x_op rfl (x_val (r_build (by assumption) (by assumption) rfl rfl) rfl ?_)
    | refine x_op rfl (x_val (r_nilCheck rfl) rfl ?_)
    | refine x_op rfl (x_val (r_lss (r := true) rfl rfl (decide_eq_true (by omega))) rfl ?_)
    | refine x_op rfl (x_val (r_lss (r := false) rfl rfl (decide_eq_false (by omega))) rfl ?_)
    | refine x_op rfl (x_val (r_leq (r := true) rfl rfl (decide_eq_true (by omega))) rfl ?_)
    | refine x_op rfl (x_val (r_leq (r := false) rfl rfl (decide_eq_false (by omega))) rfl ?_)
    | refine x_op rfl (x_val (r_gtr (r := true) rfl rfl (decide_eq_true (by omega))) rfl ?_)
    | refine x_op rfl (x_val (r_gtr (r := false) rfl rfl (decide_eq_false (by omega))) rfl ?_)
    | refine x_op rfl (x_val (r_geq (r := true) rfl rfl (decide_eq_true (by omega))) rfl ?_)
    | refine x_op rfl (x_val (r_geq (r := false) rfl rfl (decide_eq_false (by omega))) rfl ?_)
    | refine x_op rfl (x_val (r_eql (r := true) rfl rfl (decide_eq_true (by omega))) rfl ?_)
    | refine x_op rfl (x_val (r_eql (r := false) rfl rfl (decide_eq_false (by omega))) rfl ?_)
    | refine x_op rfl (x_val (r_neq (r := true) rfl rfl (decide_eq_true (by omega))) rfl ?_)
    | refine x_op rfl (x_val (r_neq (r := false) rfl rfl (decide_eq_false (by omega))) rfl ?_)
    | refine x_op rfl (x_val (by first | exact r_ownN (i := 0) (by assumption) rfl rfl rfl | exact r_ownN (i := 1) (by assumption) rfl rfl rfl | exact r_ownN (i := 2) (by assumption) rfl rfl rfl | exact r_ownN (i := 3) (by assumption) rfl rfl rfl | exact r_ownN (i := 4) (by assumption) rfl rfl rfl | exact r_ownN (i := 5) (by assumption) rfl rfl rfl) rfl ?_)
    | refine x_op rfl (s_store (i := 0) (by assumption) rfl rfl rfl rfl rfl rfl ?_)
    | refine x_op rfl (s_store (i := 1) (by assumption) rfl rfl rfl rfl rfl rfl ?_)
    | refine x_op rfl (s_store (i := 2) (by assumption) rfl rfl rfl rfl rfl rfl ?_)
    | refine x_op rfl (s_store (i := 3) (by assumption) rfl rfl rfl rfl rfl rfl ?_)
    | refine x_op rfl (s_store (i := 4) (by assumption) rfl rfl rfl rfl rfl rfl ?_)
    | refine x_op rfl (s_store (i := 5) (by assumption) rfl rfl rfl rfl rfl rfl ?_)
    | refine x_op rfl (s_box rfl rfl fun b hb => ?_) | refine x_op rfl (s_alloc (by assumption) rfl fun b hb => ?_))
  refine x_op rfl (s_call Ty.c12 rfl rfl (fun w hw => all_ (some ad) n c ps w (hw.rd0 hr) hsm (by omega)) (fun wq v wq1 hw h => ?_)); obtain ⟨rfl, hO⟩ := h; refine ⟨_, hw.call0 hO, ?_⟩
  repeat (first
    | refine x_seq ?_ | refine x_region ?_ | refine x_nil ?_ | refine x_block ?_ | refine x_skip ?_ | refine x_exit rfl ?_ | refine x_true rfl ?_ | refine x_false rfl ?_ | refine x_ret ?_ | refine x_tend ?_
    | refine x_off rfl rfl ?_ | refine x_off0 rfl ?_
    | refine x_op rfl (x_val (r_move rfl) rfl ?_)
    | refine x_op rfl (x_val (r_assign rfl) rfl ?_)
    | refine x_op rfl (x_val (r_extract rfl rfl) rfl ?_)
    | refine x_op rfl (x_val (r_pick_t rfl rfl) rfl ?_)
    | refine x_op rfl (x_val (r_pick_f rfl rfl) rfl ?_)
    | refine x_op rfl (x_val (r_fieldAddr (by assumption) rfl) rfl ?_)
    | refine x_op rfl (x_val (by first | exact r_own_add (i := 0) (by assumption) rfl rfl rfl | exact r_own_add (i := 1) (by assumption) rfl rfl rfl | exact r_own_add (i := 2) (by assumption) rfl rfl rfl | exact r_own_add (i := 3) (by assumption) rfl rfl rfl | exact r_own_add (i := 4) (by assumption) rfl rfl rfl | exact r_own_add (i := 5) (by assumption) rfl rfl rfl | exact r_own (i := 0) (by assumption) rfl rfl rfl | exact r_own (i := 1) (by assumption) rfl rfl rfl | exact r_own (i := 2) (by assumption) rfl rfl rfl | exact r_own (i := 3) (by assumption) rfl rfl rfl | exact r_own (i := 4) (by assumption) rfl rfl rfl | exact r_own (i := 5) (by assumption) rfl rfl rfl) rfl ?_)
    | refine x_op rfl (x_val (r_len_string (by assumption) rfl) rfl ?_)
    | refine x_op rfl (x_val (r_len_slice (by assumption) rfl) rfl ?_)
    | refine x_op rfl (x_val (r_cap_slice (by assumption) rfl) rfl ?_)
    | refine x_op rfl (x_val (r_not rfl rfl) rfl ?_)
    | refine x_op rfl (x_val (r_add rfl rfl ⟨by omega, by omega⟩) rfl ?_)
    | refine x_op rfl (x_val (r_sub rfl rfl ⟨by omega, by omega⟩) rfl ?_)
    | refine x_op rfl (x_val (r_build (by assumption) (by assumption) rfl rfl) rfl ?_)
    | refine x_op rfl (x_val (r_nilCheck rfl) rfl ?_)
    | refine x_op rfl (x_val (r_lss (r := true) rfl rfl (decide_eq_true (by omega))) rfl ?_)
    | refine x_op rfl (x_val (r_lss (r := false) rfl rfl (decide_eq_false (by omega))) rfl ?_)
    | refine x_op rfl (x_val (r_leq (r := true) rfl rfl (decide_eq_true (by omega))) rfl ?_)
    | refine x_op rfl (x_val (r_leq (r := false) rfl rfl (decide_eq_false (by omega))) rfl ?_)
    | refine x_op rfl (x_val (r_gtr (r := true) rfl rfl (decide_eq_true (by omega))) rfl ?_)
    | refine x_op rfl (x_val (r_gtr (r := false) rfl rfl (decide_eq_false (by omega))) rfl ?_)
    | refine x_op rfl (x_val (r_geq (r := true) rfl rfl (decide_eq_true (by omega))) rfl ?_)
    | refine x_op rfl (x_val (r_geq (r := false) rfl rfl (decide_eq_false (by omega))) rfl ?_)
    | refine x_op rfl (x_val (r_eql (r := true) rfl rfl (decide_eq_true (by omega))) rfl ?_)
    | refine x_op rfl (x_val (r_eql (r := false) rfl rfl (decide_eq_false (by omega))) rfl ?_)
    | refine x_op rfl (x_val (r_neq (r := true) rfl rfl (decide_eq_true (by omega))) rfl ?_)
    | refine x_op rfl (x_val (r_neq (r := false) rfl rfl (decide_eq_false (by omega))) rfl ?_)
    | refine x_op rfl (x_val (by first | exact r_ownN (i := 0) (by assumption) rfl rfl rfl | exact r_ownN (i := 1) (by assumption) rfl rfl rfl | exact r_ownN (i := 2) (by assumption) rfl rfl rfl | exact r_ownN (i := 3) (by assumption) rfl rfl rfl | exact r_ownN (i := 4) (by assumption) rfl rfl rfl | exact r_ownN (i := 5) (by assumption) rfl rfl rfl) rfl ?_)
    | refine x_op rfl (s_store (i := 0) (by assumption) rfl rfl rfl rfl rfl rfl ?_)
    | refine x_op rfl (s_store (i := 1) (by assumption) rfl rfl rfl rfl rfl rfl ?_)
    | refine x_op rfl (s_store (i := 2) (by assumption) rfl rfl rfl rfl rfl rfl ?_)
    | refine x_op rfl (s_store (i := 3) (by assumption) rfl rfl rfl rfl rfl rfl ?_)
    | refine x_op rfl (s_store (i := 4) (by assumption) rfl rfl rfl rfl rfl rfl ?_)
    | refine x_op rfl (s_store (i := 5) (by assumption) rfl rfl rfl rfl rfl rfl ?_)
    | refine x_op rfl (s_box rfl rfl fun b hb => ?_) | refine x_op rfl (s_alloc (by assumption) rfl fun b hb => ?_))
  refine x_op rfl (x_val (r_indexAddr u22 i36 rfl rfl ⟨by omega, by omega⟩) rfl ?_)
  refine x_op rfl (x_val (r_loadN [.string p0.1, .string p0.2] z36 rfl rfl fun w hS => pair_ (k := 0) (hS.rd0 hr) hc0) rfl ?_)
  repeat (first
    | refine x_region ?_ | refine x_nil ?_ | refine x_tend ?_
    | refine x_off rfl rfl ?_ | refine x_off0 rfl ?_
    | refine x_op rfl (x_val (r_move rfl) rfl ?_)
    | refine x_op rfl (x_val (r_assign rfl) rfl ?_)
    | refine x_op rfl (x_val (r_extract rfl rfl) rfl ?_)
    | refine x_op rfl (x_val (r_pick_t rfl rfl) rfl ?_)
    | refine x_op rfl (x_val (r_pick_f rfl rfl) rfl ?_)
    | refine x_op rfl (x_val (r_fieldAddr (by assumption) rfl) rfl ?_)
    | refine x_op rfl (x_val (by first | exact r_own_add (i := 0) (by assumption) rfl rfl rfl | exact r_own_add (i := 1) (by assumption) rfl rfl rfl | exact r_own_add (i := 2) (by assumption) rfl rfl rfl | exact r_own_add (i := 3) (by assumption) rfl rfl rfl | exact r_own_add (i := 4) (by assumption) rfl rfl rfl | exact r_own_add (i := 5) (by assumption) rfl rfl rfl | exact r_own (i := 0) (by assumption) rfl rfl rfl | exact r_own (i := 1) (by assumption) rfl rfl rfl | exact r_own (i := 2) (by assumption) rfl rfl rfl | exact r_own (i := 3) (by assumption) rfl rfl rfl | exact r_own (i := 4) (by assumption) rfl rfl rfl | exact r_own (i := 5) (by assumption) rfl rfl rfl) rfl ?_)
    | refine x_op rfl (x_val (r_len_string (by assumption) rfl) rfl ?_)
    | refine x_op rfl (x_val (r_len_slice (by assumption) rfl) rfl ?_)
    | refine x_op rfl (x_val (r_cap_slice (by assumption) rfl) rfl ?_)
    | refine x_op rfl (x_val (r_not rfl rfl) rfl ?_)
    | refine x_op rfl (x_val (r_add rfl rfl ⟨by omega, by omega⟩) rfl ?_)
    | refine x_op rfl (x_val (r_sub rfl rfl ⟨by omega, by omega⟩) rfl ?_)
    | refine x_op rfl (x_val (r_build (by assumption) (by assumption) rfl rfl) rfl ?_)
    | refine x_op rfl (x_val (r_nilCheck rfl) rfl ?_)
    | refine x_op rfl (x_val (r_lss (r := true) rfl rfl (decide_eq_true (by omega))) rfl ?_)
    | refine x_op rfl (x_val (r_lss (r := false) rfl rfl (decide_eq_false (by omega))) rfl ?_)
    | refine x_op rfl (x_val (r_leq (r := true) rfl rfl (decide_eq_true (by omega))) rfl ?_)
    | refine x_op rfl (x_val (r_leq (r := false) rfl rfl (decide_eq_false (by omega))) rfl ?_)
    | refine x_op rfl (x_val (r_gtr (r := true) rfl rfl (decide_eq_true (by omega))) rfl ?_)
    | refine x_op rfl (x_val (r_gtr (r := false) rfl rfl (decide_eq_false (by omega))) rfl ?_)
    | refine x_op rfl (x_val (r_geq (r := true) rfl rfl (decide_eq_true (by omega))) rfl ?_)
    | refine x_op rfl (x_val (r_geq (r := false) rfl rfl (decide_eq_false (by omega))) rfl ?_)
    | refine x_op rfl (x_val (r_eql (r := true) rfl rfl (decide_eq_true (by omega))) rfl ?_)
    | refine x_op rfl (x_val (r_eql (r := false) rfl rfl (decide_eq_false (by omega))) rfl ?_)
    | refine x_op rfl (x_val (r_neq (r := true) rfl rfl (decide_eq_true (by omega))) rfl ?_)
    | refine x_op rfl (x_val (r_neq (r := false) rfl rfl (decide_eq_false (by omega))) rfl ?_)
    | refine x_op rfl (x_val (by first | exact r_ownN (i := 0) (by assumption) rfl rfl rfl | exact r_ownN (i := 1) (by assumption) rfl rfl rfl | exact r_ownN (i := 2) (by assumption) rfl rfl rfl | exact r_ownN (i := 3) (by assumption) rfl rfl rfl | exact r_ownN (i := 4) (by assumption) rfl rfl rfl | exact r_ownN (i := 5) (by assumption) rfl rfl rfl) rfl ?_)
    | refine x_op rfl (s_store (i := 0) (by assumption) rfl rfl rfl rfl rfl rfl ?_)
    | refine x_op rfl (s_store (i := 1) (by assumption) rfl rfl rfl rfl rfl rfl ?_)
    | refine x_op rfl (s_store (i := 2) (by assumption) rfl rfl rfl rfl rfl rfl ?_)
    | refine x_op rfl (s_store (i := 3) (by assumption) rfl rfl rfl rfl rfl rfl ?_)
    | refine x_op rfl (s_store (i := 4) (by assumption) rfl rfl rfl rfl rfl rfl ?_)
    | refine x_op rfl (s_store (i := 5) (by assumption) rfl rfl rfl rfl rfl rfl ?_)
    | refine x_op rfl (s_box rfl rfl fun b hb => ?_) | refine x_op rfl (s_alloc (by assumption) rfl fun b hb => ?_))
  refine x_op rfl (s_call Ty.c13 rfl rfl (fun w hw => bytes_ p0.1 p0.2 w (by omega) (by omega)) (fun wq v wq1 hw h => ?_)); obtain ⟨rfl, hO⟩ := h; refine ⟨_, hw.call0 hO, ?_⟩
  repeat (first
    | refine x_region ?_ | refine x_nil ?_ | refine x_tend ?_
    | refine x_off rfl rfl ?_ | refine x_off0 rfl ?_
    | refine x_op rfl (x_val (r_move rfl) rfl ?_)
    | refine x_op rfl (x_val (r_assign rfl) rfl ?_)
    | refine x_op rfl (x_val (r_extract rfl rfl) rfl ?_)
    | refine x_op rfl (x_val (r_pick_t rfl rfl) rfl ?_)
    | refine x_op rfl (x_val (r_pick_f rfl rfl) rfl ?_)
    | refine x_op rfl (x_val (r_fieldAddr (by assumption) rfl) rfl ?_)
    | refine x_op rfl (x_val (by first | exact r_own_add (i := 0) (by assumption) rfl rfl rfl | exact r_own_add (i := 1) (by assumption) rfl rfl rfl | exact r_own_add (i := 2) (by assumption) rfl rfl rfl | exact r_own_add (i := 3) (by assumption) rfl rfl rfl | exact r_own_add (i := 4) (by assumption) rfl rfl rfl | exact r_own_add (i := 5) (by assumption) rfl rfl rfl | exact r_own (i := 0) (by assumption) rfl rfl rfl | exact r_own (i := 1) (by assumption) rfl rfl rfl | exact r_own (i := 2) (by assumption) rfl rfl rfl | exact r_own (i := 3) (by assumption) rfl rfl rfl | exact r_own (i := 4) (by assumption) rfl rfl rfl | exact r_own (i := 5) (by assumption) rfl rfl rfl) rfl ?_)
    | refine x_op rfl (x_val (r_len_string (by assumption) rfl) rfl ?_)
    | refine x_op rfl (x_val (r_len_slice (by assumption) rfl) rfl ?_)
    | refine x_op rfl (x_val (r_cap_slice (by assumption) rfl) rfl ?_)
    | refine x_op rfl (x_val (r_not rfl rfl) rfl ?_)
    | refine x_op rfl (x_val (r_add rfl rfl ⟨by omega, by omega⟩) rfl ?_)
    | refine x_op rfl (x_val (r_sub rfl rfl ⟨by omega, by omega⟩) rfl ?_)
    | refine x_op rfl (x_val (r_build (by assumption) (by assumption) rfl rfl) rfl ?_)
    | refine x_op rfl (x_val (r_nilCheck rfl) rfl ?_)
    | refine x_op rfl (x_val (r_lss (r := true) rfl rfl (decide_eq_true (by omega))) rfl ?_)
    | refine x_op rfl (x_val (r_lss (r := false) rfl rfl (decide_eq_false (by omega))) rfl ?_)
    | refine x_op rfl (x_val (r_leq (r := true) rfl rfl (decide_eq_true (by omega))) rfl ?_)
    | refine x_op rfl (x_val (r_leq (r := false) rfl rfl (decide_eq_false (by omega))) rfl ?_)
    | refine x_op rfl (x_val (r_gtr (r := true) rfl rfl (decide_eq_true (by omega))) rfl ?_)
    | refine x_op rfl (x_val (r_gtr (r := false) rfl rfl (decide_eq_false (by omega))) rfl ?_)
    | refine x_op rfl (x_val (r_geq (r := true) rfl rfl (decide_eq_true (by omega))) rfl ?_)
    | refine x_op rfl (x_val (r_geq (r := false) rfl rfl (decide_eq_false (by omega))) rfl ?_)
    | refine x_op rfl (x_val (r_eql (r := true) rfl rfl (decide_eq_true (by omega))) rfl ?_)
    | refine x_op rfl (x_val (r_eql (r := false) rfl rfl (decide_eq_false (by omega))) rfl ?_)
    | refine x_op rfl (x_val (r_neq (r := true) rfl rfl (decide_eq_true (by omega))) rfl ?_)
    | refine x_op rfl (x_val (r_neq (r := false) rfl rfl (decide_eq_false (by omega))) rfl ?_)
    | refine x_op rfl (x_val (by first | exact r_ownN (i := 0) (by assumption) rfl rfl rfl | exact r_ownN (i := 1) (by assumption) rfl rfl rfl | exact r_ownN (i := 2) (by assumption) rfl rfl rfl | exact r_ownN (i := 3) (by assumption) rfl rfl rfl | exact r_ownN (i := 4) (by assumption) rfl rfl rfl | exact r_ownN (i := 5) (by assumption) rfl rfl rfl) rfl ?_)
    | refine x_op rfl (s_store (i := 0) (by assumption) rfl rfl rfl rfl rfl rfl ?_)
    | refine x_op rfl (s_store (i := 1) (by assumption) rfl rfl rfl rfl rfl rfl ?_)
    | refine x_op rfl (s_store (i := 2) (by assumption) rfl rfl rfl rfl rfl rfl ?_)
    | refine x_op rfl (s_store (i := 3) (by assumption) rfl rfl rfl rfl rfl rfl ?_)
    | refine x_op rfl (s_store (i := 4) (by assumption) rfl rfl rfl rfl rfl rfl ?_)
    | refine x_op rfl (s_store (i := 5) (by assumption) rfl rfl rfl rfl rfl rfl ?_)
    | refine x_op rfl (s_box rfl rfl fun b hb => ?_) | refine x_op rfl (s_alloc (by assumption) rfl fun b hb => ?_))
  refine x_cut (σ := Unit) (fun _ => [(1, .pointer (some ⟨b0, 0, none⟩)), (2, .pointer (some ⟨b2, 0, none⟩)), (4, .pointer (some ⟨b4, 0, none⟩)), (8, .int .i64 (splitI ps top))]) (fun _ => [bl b4 26 #[.bool false, .int .i64 0, .slice none 0 0], bl b2 26 #[.bool false, .int .i64 0, .slice none 0 0], bl b0 26 #[.bool br, .int .i64 first, .slice (some ad) n c]]) (fun _ => True) ?_ (fun _ _ => ?_)
  · refine x_block ?_
    refine x_loop (fun i : Nat => [(1, .pointer (some ⟨b0, 0, none⟩)), (2, .pointer (some ⟨b2, 0, none⟩)), (4, .pointer (some ⟨b4, 0, none⟩)), (6, .int .i64 top), (7, .int .i64 (sz ps)), (8, .int .i64 i), (9, .int .i64 (sz (ps.take i)))])
      (fun _ => [bl b4 26 #[.bool false, .int .i64 0, .slice none 0 0], bl b2 26 #[.bool false, .int .i64 0, .slice none 0 0], bl b0 26 #[.bool br, .int .i64 first, .slice (some ad) n c]])
      (fun i => 1 ≤ i ∧ (i : Int) ≤ top ∧ splitI ps top = splitGo ps top (ps.length + 1 - i) i) (fun i => n - i) 1 ⟨rfl, rfl, rfl, rfl, rfl, rfl, by rw [hst0]; simp [sz]; rfl, trivial⟩ (fun _ h => h) ⟨Nat.le_refl _, by omega, by simp [splitI]⟩ (fun i hi => ?_)
    obtain ⟨hi1, hitop, hgo⟩ := hi
    have hsi0 := sz_nonneg (ps.take i)
    have hsile : sz (ps.take i) ≤ 8194 * 255 := by
      have := sz_le (ps.take i) (fun q hq => hsm q (List.mem_of_mem_take hq))
      have h2 : (ps.take i).length ≤ 255 := by rw [List.length_take]; omega
      omega
    have hmore : (i : Int) < top → 2 * sz (ps.take i) < sz ps → splitI ps top = splitGo ps top (ps.length + 1 - (i + 1)) (i + 1) := fun h1 h2 => by
      rw [hgo, show ps.length + 1 - i = (ps.length + 1 - (i + 1)) + 1 by omega, splitGo_step _ _ _ _ h1 h2]
    have hstop : ¬ ((i : Int) < top ∧ 2 * sz (ps.take i) < sz ps) → splitI ps top = i := fun h => by rw [hgo, splitGo_end _ _ _ _ h]
    repeat (first
    | refine x_seq ?_ | refine x_region ?_ | refine x_nil ?_ | refine x_block ?_ | refine x_skip ?_ | refine x_exit rfl ?_ | refine x_true rfl ?_ | refine x_false rfl ?_ | refine x_ret ?_ | refine x_tend ?_
    | refine x_off rfl rfl ?_ | refine x_off0 rfl ?_
    | refine x_op rfl (x_val (r_move rfl) rfl ?_)
    | refine x_op rfl (x_val (r_assign rfl) rfl ?_)
    | refine x_op rfl (x_val (r_extract rfl rfl) rfl ?_)
    | refine x_op rfl (x_val (r_pick_t rfl rfl) rfl ?_)
    | refine x_op rfl (x_val (r_pick_f rfl rfl) rfl ?_)
    | refine x_op rfl (x_val (r_fieldAddr (by assumption) rfl) rfl ?_)
    | refine x_op rfl (x_val (by first | exact r_own_add (i := 0) (by assumption) rfl rfl rfl | exact r_own_add (i := 1) (by assumption) rfl rfl rfl | exact r_own_add (i := 2) (by assumption) rfl rfl rfl | exact r_own_add (i := 3) (by assumption) rfl rfl rfl | exact r_own_add (i := 4) (by assumption) rfl rfl rfl | exact r_own_add (i := 5) (by assumption) rfl rfl rfl | exact r_own (i := 0) (by assumption) rfl rfl rfl | exact r_own (i := 1) (by assumption) rfl rfl rfl | exact r_own (i := 2) (by assumption) rfl rfl rfl | exact r_own (i := 3) (by assumption) rfl rfl rfl | exact r_own (i := 4) (by assumption) rfl rfl rfl | exact r_own (i := 5) (by assumption) rfl rfl rfl) rfl ?_)
    | refine x_op rfl (x_val (r_len_string (by assumption) rfl) rfl ?_)
    | refine x_op rfl (x_val (r_len_slice (by assumption) rfl) rfl ?_)
    | refine x_op rfl (x_val (r_cap_slice (by assumption) rfl) rfl ?_)
    | refine x_op rfl (x_val (r_not rfl rfl) rfl ?_)
    | refine x_op rfl (x_val (r_add rfl rfl ⟨by omega, by omega⟩) rfl ?_)
    | refine x_op rfl (x_val (r_sub rfl rfl ⟨by omega, by omega⟩) rfl ?_)
    | refine x_op rfl (x_val (r_build (by assumption) (by assumption) rfl rfl) rfl ?_)
    | refine x_op rfl (x_val (r_nilCheck rfl) rfl ?_)
    | refine x_op rfl (x_val (r_lss (r := true) rfl rfl (decide_eq_true (by omega))) rfl ?_)
    | refine x_op rfl (x_val (r_lss (r := false) rfl rfl (decide_eq_false (by omega))) rfl ?_)
    | refine x_op rfl (x_val (r_leq (r := true) rfl rfl (decide_eq_true (by omega))) rfl ?_)
    | refine x_op rfl (x_val (r_leq (r := false) rfl rfl (decide_eq_false (by omega))) rfl ?_)
    | refine x_op rfl (x_val (r_gtr (r := true) rfl rfl (decide_eq_true (by omega))) rfl ?_)
    | refine x_op rfl (x_val (r_gtr (r := false) rfl rfl (decide_eq_false (by omega))) rfl ?_)
    | refine x_op rfl (x_val (r_geq (r := true) rfl rfl (decide_eq_true (by omega))) rfl ?_)
    | refine x_op rfl (x_val (r_geq (r := false) rfl rfl (decide_eq_false (by omega))) rfl ?_)
    | refine x_op rfl (x_val (r_eql (r := true) rfl rfl (decide_eq_true (by omega))) rfl ?_)
    | refine x_op rfl (x_val (r_eql (r := false) rfl rfl (decide_eq_false (by omega))) rfl ?_)
    | refine x_op rfl (x_val (r_neq (r := true) rfl rfl (decide_eq_true (by omega))) rfl ?_)
    | refine x_op rfl (x_val (r_neq (r := false) rfl rfl (decide_eq_false (by omega))) rfl ?_)
    | refine x_op rfl (x_val (by first | exact r_ownN (i := 0) (by assumption) rfl rfl rfl | exact r_ownN (i := 1) (by assumption) rfl rfl rfl | exact r_ownN (i := 2) (by assumption) rfl rfl rfl | exact r_ownN (i := 3) (by assumption) rfl rfl rfl | exact r_ownN (i := 4) (by assumption) rfl rfl rfl | exact r_ownN (i := 5) (by assumption) rfl rfl rfl) rfl ?_)
    | refine x_op rfl (s_store (i := 0) (by assumption) rfl rfl rfl rfl rfl rfl ?_)
    | refine x_op rfl (s_store (i := 1) (by assumption) rfl rfl rfl rfl rfl rfl ?_)
    | refine x_op rfl (s_store (i := 2) (by assumption) rfl rfl rfl rfl rfl rfl ?_)
    | refine x_op rfl (s_store (i := 3) (by assumption) rfl rfl rfl rfl rfl rfl ?_)
    | refine x_op rfl (s_store (i := 4) (by assumption) rfl rfl rfl rfl rfl rfl ?_)
    | refine x_op rfl (s_store (i := 5) (by assumption) rfl rfl rfl rfl rfl rfl ?_)
    | refine x_op rfl (s_box rfl rfl fun b hb => ?_) | refine x_op rfl (s_alloc (by assumption) rfl fun b hb => ?_))
    refine x_op rfl (x_val (r_lss rfl rfl rfl) rfl (x_dec (fun hb => ?_) (fun hb => ?_)))
    · refine x_op rfl (x_val (r_move rfl) rfl ?_)
      refine x_op rfl (x_val (r_move rfl) rfl ?_)
      refine x_op rfl (x_val (r_mul rfl rfl ⟨by omega, by omega⟩) rfl ?_)
      refine x_op rfl (x_val (r_move rfl) rfl ?_)
      have hit : (i : Int) < top := hb
      clear hb
      refine x_op rfl (x_val (r_lss rfl rfl rfl) rfl (x_dec (fun hb => ?_) (fun hb => ?_)))
      · have hc : ps[i]? = some (ps[i]'(by omega)) := List.getElem?_eq_getElem _
        generalize ps[i]'(by omega) = p at hc
        have hsp' := hsm p (List.mem_of_getElem? hc)
        have hst := sz_take hc
        unfold smallPr at hsp'
        repeat (first
    | refine x_seq ?_ | refine x_region ?_ | refine x_nil ?_ | refine x_block ?_ | refine x_skip ?_ | refine x_exit rfl ?_ | refine x_true rfl ?_ | refine x_false rfl ?_ | refine x_ret ?_ | refine x_tend ?_
    | refine x_off rfl rfl ?_ | refine x_off0 rfl ?_
    | refine x_op rfl (x_val (r_move rfl) rfl ?_)
    | refine x_op rfl (x_val (r_assign rfl) rfl ?_)
    | refine x_op rfl (x_val (r_extract rfl rfl) rfl ?_)
    | refine x_op rfl (x_val (r_pick_t rfl rfl) rfl ?_)
    | refine x_op rfl (x_val (r_pick_f rfl rfl) rfl ?_)
    | refine x_op rfl (x_val (r_fieldAddr (by assumption) rfl) rfl ?_)
    | refine x_op rfl (x_val (by first | exact r_own_add (i := 0) (by assumption) rfl rfl rfl | exact r_own_add (i := 1) (by assumption) rfl rfl rfl | exact r_own_add (i := 2) (by assumption) rfl rfl rfl | exact r_own_add (i := 3) (by assumption) rfl rfl rfl | exact r_own_add (i := 4) (by assumption) rfl rfl rfl | exact r_own_add (i := 5) (by assumption) rfl rfl rfl | exact r_own (i := 0) (by assumption) rfl rfl rfl | exact r_own (i := 1) (by assumption) rfl rfl rfl | exact r_own (i := 2) (by assumption) rfl rfl rfl | exact r_own (i := 3) (by assumption) rfl rfl rfl | exact r_own (i := 4) (by assumption) rfl rfl rfl | exact r_own (i := 5) (by assumption) rfl rfl rfl) rfl ?_)
    | refine x_op rfl (x_val (r_len_string (by assumption) rfl) rfl ?_)
    | refine x_op rfl (x_val (r_len_slice (by assumption) rfl) rfl ?_)
    | refine x_op rfl (x_val (r_cap_slice (by assumption) rfl) rfl ?_)
    | refine x_op rfl (x_val (r_not rfl rfl) rfl ?_)
    | refine x_op rfl (x_val (r_add rfl rfl ⟨by omega, by omega⟩) rfl ?_)
    | refine x_op rfl (x_val (r_sub rfl rfl ⟨by omega, by omega⟩) rfl ?_)
    | refine x_op rfl (x_val (r_build (by assumption) (by assumption) rfl rfl) rfl ?_)
    | refine x_op rfl (x_val (r_nilCheck rfl) rfl ?_)
    | refine x_op rfl (x_val (r_lss (r := true) rfl rfl (decide_eq_true (by omega))) rfl ?_)
    | refine x_op rfl (x_val (r_lss (r := false) rfl rfl (decide_eq_false (by omega))) rfl ?_)
    | refine x_op rfl (x_val (r_leq (r := true) rfl rfl (decide_eq_true (by omega))) rfl ?_)
    | refine x_op rfl (x_val (r_leq (r := false) rfl rfl (decide_eq_false (by omega))) rfl ?_)
    | refine x_op rfl (x_val (r_gtr (r := true) rfl rfl (decide_eq_true (by omega))) rfl ?_)
    | refine x_op rfl (x_val (r_gtr (r := false) rfl rfl (decide_eq_false (by omega))) rfl ?_)
    | refine x_op rfl (x_val (r_geq (r := true) rfl rfl (decide_eq_true (by omega))) rfl ?_)
    | refine x_op rfl (x_val (r_geq (r := false) rfl rfl (decide_eq_false (by omega))) rfl ?_)
    | refine x_op rfl (x_val (r_eql (r := true) rfl rfl (decide_eq_true (by omega))) rfl ?_)
    | refine x_op rfl (x_val (r_eql (r := false) rfl rfl (decide_eq_false (by omega))) rfl ?_)
    | refine x_op rfl (x_val (r_neq (r := true) rfl rfl (decide_eq_true (by omega))) rfl ?_)
    | refine x_op rfl (x_val (r_neq (r := false) rfl rfl (decide_eq_false (by omega))) rfl ?_)
    | refine x_op rfl (x_val (by first | exact r_ownN (i := 0) (by assumption) rfl rfl rfl | exact r_ownN (i := 1) (by assumption) rfl rfl rfl | exact r_ownN (i := 2) (by assumption) rfl rfl rfl | exact r_ownN (i := 3) (by assumption) rfl rfl rfl | exact r_ownN (i := 4) (by assumption) rfl rfl rfl | exact r_ownN (i := 5) (by assumption) rfl rfl rfl) rfl ?_)
    | refine x_op rfl (s_store (i := 0) (by assumption) rfl rfl rfl rfl rfl rfl ?_)
    | refine x_op rfl (s_store (i := 1) (by assumption) rfl rfl rfl rfl rfl rfl ?_)
    | refine x_op rfl (s_store (i := 2) (by assumption) rfl rfl rfl rfl rfl rfl ?_)
    | refine x_op rfl (s_store (i := 3) (by assumption) rfl rfl rfl rfl rfl rfl ?_)
    | refine x_op rfl (s_store (i := 4) (by assumption) rfl rfl rfl rfl rfl rfl ?_)
    | refine x_op rfl (s_store (i := 5) (by assumption) rfl rfl rfl rfl rfl rfl ?_)
    | refine x_op rfl (s_box rfl rfl fun b hb => ?_) | refine x_op rfl (s_alloc (by assumption) rfl fun b hb => ?_))
        refine x_op rfl (x_val (r_indexAddr u22 i36 rfl rfl ⟨by omega, by omega⟩) rfl ?_)
        refine x_op rfl (x_val (r_loadN [.string p.1, .string p.2] z36 rfl rfl fun w hS => pair_ (hS.rd0 hr) hc) rfl ?_)
        repeat (first
    | refine x_seq ?_ | refine x_region ?_ | refine x_nil ?_ | refine x_block ?_ | refine x_skip ?_ | refine x_exit rfl ?_ | refine x_true rfl ?_ | refine x_false rfl ?_ | refine x_ret ?_ | refine x_tend ?_
    | refine x_off rfl rfl ?_ | refine x_off0 rfl ?_
    | refine x_op rfl (x_val (r_move rfl) rfl ?_)
    | refine x_op rfl (x_val (r_assign rfl) rfl ?_)
    | refine x_op rfl (x_val (r_extract rfl rfl) rfl ?_)
    | refine x_op rfl (x_val (r_pick_t rfl rfl) rfl ?_)
    | refine x_op rfl (x_val (r_pick_f rfl rfl) rfl ?_)
    | refine x_op rfl (x_val (r_fieldAddr (by assumption) rfl) rfl ?_)
    | refine x_op rfl (x_val (by first | exact r_own_add (i := 0) (by assumption) rfl rfl rfl | exact r_own_add (i := 1) (by assumption) rfl rfl rfl | exact r_own_add (i := 2) (by assumption) rfl rfl rfl | exact r_own_add (i := 3) (by assumption) rfl rfl rfl | exact r_own_add (i := 4) (by assumption) rfl rfl rfl | exact r_own_add (i := 5) (by assumption) rfl rfl rfl | exact r_own (i := 0) (by assumption) rfl rfl rfl | exact r_own (i := 1) (by assumption) rfl rfl rfl | exact r_own (i := 2) (by assumption) rfl rfl rfl | exact r_own (i := 3) (by assumption) rfl rfl rfl | exact r_own (i := 4) (by assumption) rfl rfl rfl | exact r_own (i := 5) (by assumption) rfl rfl rfl) rfl ?_)
    | refine x_op rfl (x_val (r_len_string (by assumption) rfl) rfl ?_)
    | refine x_op rfl (x_val (r_len_slice (by assumption) rfl) rfl ?_)
    | refine x_op rfl (x_val (r_cap_slice (by assumption) rfl) rfl ?_)
    | refine x_op rfl (x_val (r_not rfl rfl) rfl ?_)
    | refine x_op rfl (x_val (r_add rfl rfl ⟨by omega, by omega⟩) rfl ?_)
    | refine x_op rfl (x_val (r_sub rfl rfl ⟨by omega, by omega⟩) rfl ?_)
    | refine x_op rfl (x_val (r_build (by assumption) (by assumption) rfl rfl) rfl ?_)
    | refine x_op rfl (x_val (r_nilCheck rfl) rfl ?_)
    | refine x_op rfl (x_val (r_lss (r := true) rfl rfl (decide_eq_true (by omega))) rfl ?_)
    | refine x_op rfl (x_val (r_lss (r := false) rfl rfl (decide_eq_false (by omega))) rfl ?_)
    | refine x_op rfl (x_val (r_leq (r := true) rfl rfl (decide_eq_true (by omega))) rfl ?_)
    | refine x_op rfl (x_val (r_leq (r := false) rfl rfl (decide_eq_false (by omega))) rfl ?_)
    | refine x_op rfl (x_val (r_gtr (r := true) rfl rfl (decide_eq_true (by omega))) rfl ?_)
    | refine x_op rfl (x_val (r_gtr (r := false) rfl rfl (decide_eq_false (by omega))) rfl ?_)
    | refine x_op rfl (x_val (r_geq (r := true) rfl rfl (decide_eq_true (by omega))) rfl ?_)
    | refine x_op rfl (x_val (r_geq (r := false) rfl rfl (decide_eq_false (by omega))) rfl ?_)
    | refine x_op rfl (x_val (r_eql (r := true) rfl rfl (decide_eq_true (by omega))) rfl ?_)
    | refine x_op rfl (x_val (r_eql (r := false) rfl rfl (decide_eq_false (by omega))) rfl ?_)
    | refine x_op rfl (x_val (r_neq (r := true) rfl rfl (decide_eq_true (by omega))) rfl ?_)
    | refine x_op rfl (x_val (r_neq (r := false) rfl rfl (decide_eq_false (by omega))) rfl ?_)
    | refine x_op rfl (x_val (by first | exact r_ownN (i := 0) (by assumption) rfl rfl rfl | exact r_ownN (i := 1) (by assumption) rfl rfl rfl | exact r_ownN (i := 2) (by assumption) rfl rfl rfl | exact r_ownN (i := 3) (by assumption) rfl rfl rfl | exact r_ownN (i := 4) (by assumption) rfl rfl rfl | exact r_ownN (i := 5) (by assumption) rfl rfl rfl) rfl ?_)
    | refine x_op rfl (s_store (i := 0) (by assumption) rfl rfl rfl rfl rfl rfl ?_)
    | refine x_op rfl (s_store (i := 1) (by assumption) rfl rfl rfl rfl rfl rfl ?_)
    | refine x_op rfl (s_store (i := 2) (by assumption) rfl rfl rfl rfl rfl rfl ?_)
    | refine x_op rfl (s_store (i := 3) (by assumption) rfl rfl rfl rfl rfl rfl ?_)
    | refine x_op rfl (s_store (i := 4) (by assumption) rfl rfl rfl rfl rfl rfl ?_)
    | refine x_op rfl (s_store (i := 5) (by assumption) rfl rfl rfl rfl rfl rfl ?_)
    | refine x_op rfl (s_box rfl rfl fun b hb => ?_) | refine x_op rfl (s_alloc (by assumption) rfl fun b hb => ?_))
        refine x_op rfl (s_call Ty.c13 rfl rfl (fun w hw => bytes_ p.1 p.2 w (by omega) (by omega)) (fun wq v wq1 hw h => ?_)); obtain ⟨rfl, hO⟩ := h; refine ⟨_, hw.call0 hO, ?_⟩
        repeat (first
    | refine x_seq ?_ | refine x_region ?_ | refine x_nil ?_ | refine x_block ?_ | refine x_skip ?_ | refine x_exit rfl ?_ | refine x_true rfl ?_ | refine x_false rfl ?_ | refine x_ret ?_ | refine x_tend ?_
    | refine x_off rfl rfl ?_ | refine x_off0 rfl ?_
    | refine x_op rfl (x_val (r_move rfl) rfl ?_)
    | refine x_op rfl (x_val (r_assign rfl) rfl ?_)
    | refine x_op rfl (x_val (r_extract rfl rfl) rfl ?_)
    | refine x_op rfl (x_val (r_pick_t rfl rfl) rfl ?_)
    | refine x_op rfl (x_val (r_pick_f rfl rfl) rfl ?_)
    | refine x_op rfl (x_val (r_fieldAddr (by assumption) rfl) rfl ?_)
    | refine x_op rfl (x_val (by first | exact r_own_add (i := 0) (by assumption) rfl rfl rfl | exact r_own_add (i := 1) (by assumption) rfl rfl rfl | exact r_own_add (i := 2) (by assumption) rfl rfl rfl | exact r_own_add (i := 3) (by assumption) rfl rfl rfl | exact r_own_add (i := 4) (by assumption) rfl rfl rfl | exact r_own_add (i := 5) (by assumption) rfl rfl rfl | exact r_own (i := 0) (by assumption) rfl rfl rfl | exact r_own (i := 1) (by assumption) rfl rfl rfl | exact r_own (i := 2) (by assumption) rfl rfl rfl | exact r_own (i := 3) (by assumption) rfl rfl rfl | exact r_own (i := 4) (by assumption) rfl rfl rfl | exact r_own (i := 5) (by assumption) rfl rfl rfl) rfl ?_)
    | refine x_op rfl (x_val (r_len_string (by assumption) rfl) rfl ?_)
    | refine x_op rfl (x_val (r_len_slice (by assumption) rfl) rfl ?_)
    | refine x_op rfl (x_val (r_cap_slice (by assumption) rfl) rfl ?_)
    | refine x_op rfl (x_val (r_not rfl rfl) rfl ?_)
    | refine x_op rfl (x_val (r_add rfl rfl ⟨by omega, by omega⟩) rfl ?_)
    | refine x_op rfl (x_val (r_sub rfl rfl ⟨by omega, by omega⟩) rfl ?_)
    | refine x_op rfl (x_val (r_build (by assumption) (by assumption) rfl rfl) rfl ?_)
    | refine x_op rfl (x_val (r_nilCheck rfl) rfl ?_)
    | refine x_op rfl (x_val (r_lss (r := true) rfl rfl (decide_eq_true (by omega))) rfl ?_)
    | refine x_op rfl (x_val (r_lss (r := false) rfl rfl (decide_eq_false (by omega))) rfl ?_)
    | refine x_op rfl (x_val (r_leq (r := true) rfl rfl (decide_eq_true (by omega))) rfl ?_)
    | refine x_op rfl (x_val (r_leq (r := false) rfl rfl (decide_eq_false (by omega))) rfl ?_)
    | refine x_op rfl (x_val (r_gtr (r := true) rfl rfl (decide_eq_true (by omega))) rfl ?_)
    | refine x_op rfl (x_val (r_gtr (r := false) rfl rfl (decide_eq_false (by omega))) rfl ?_)
    | refine x_op rfl (x_val (r_geq (r := true) rfl rfl (decide_eq_true (by omega))) rfl ?_)
    | refine x_op rfl (x_val (r_geq (r := false) rfl rfl (decide_eq_false (by omega))) rfl ?_)
    | refine x_op rfl (x_val (r_eql (r := true) rfl rfl (decide_eq_true (by omega))) rfl ?_)
    | refine x_op rfl (x_val (r_eql (r := false) rfl rfl (decide_eq_false (by omega))) rfl ?_)
    | refine x_op rfl (x_val (r_neq (r := true) rfl rfl (decide_eq_true (by omega))) rfl ?_)
    | refine x_op rfl (x_val (r_neq (r := false) rfl rfl (decide_eq_false (by omega))) rfl ?_)
    | refine x_op rfl (x_val (by first | exact r_ownN (i := 0) (by assumption) rfl rfl rfl | exact r_ownN (i := 1) (by assumption) rfl rfl rfl | exact r_ownN (i := 2) (by assumption) rfl rfl rfl | exact r_ownN (i := 3) (by assumption) rfl rfl rfl | exact r_ownN (i := 4) (by assumption) rfl rfl rfl | exact r_ownN (i := 5) (by assumption) rfl rfl rfl) rfl ?_)
    | refine x_op rfl (s_store (i := 0) (by assumption) rfl rfl rfl rfl rfl rfl ?_)
    | refine x_op rfl (s_store (i := 1) (by assumption) rfl rfl rfl rfl rfl rfl ?_)
    | refine x_op rfl (s_store (i := 2) (by assumption) rfl rfl rfl rfl rfl rfl ?_)
    | refine x_op rfl (s_store (i := 3) (by assumption) rfl rfl rfl rfl rfl rfl ?_)
    | refine x_op rfl (s_store (i := 4) (by assumption) rfl rfl rfl rfl rfl rfl ?_)
    | refine x_op rfl (s_store (i := 5) (by assumption) rfl rfl rfl rfl rfl rfl ?_)
    | refine x_op rfl (s_box rfl rfl fun b hb => ?_) | refine x_op rfl (s_alloc (by assumption) rfl fun b hb => ?_))
        exact x_again (i + 1) ⟨rfl, rfl, rfl, rfl, rfl, rfl, by rw [hst]; rfl, trivial⟩ (fun _ h => h) ⟨by omega, by omega, hmore hit hb⟩ (by omega)
      · have hs := hstop (fun h => hb h.2)
        repeat (first
    | refine x_seq ?_ | refine x_region ?_ | refine x_nil ?_ | refine x_block ?_ | refine x_skip ?_ | refine x_exit rfl ?_ | refine x_true rfl ?_ | refine x_false rfl ?_ | refine x_ret ?_ | refine x_tend ?_
    | refine x_off rfl rfl ?_ | refine x_off0 rfl ?_
    | refine x_op rfl (x_val (r_move rfl) rfl ?_)
    | refine x_op rfl (x_val (r_assign rfl) rfl ?_)
    | refine x_op rfl (x_val (r_extract rfl rfl) rfl ?_)
    | refine x_op rfl (x_val (r_pick_t rfl rfl) rfl ?_)
    | refine x_op rfl (x_val (r_pick_f rfl rfl) rfl ?_)
    | refine x_op rfl (x_val (r_fieldAddr (by assumption) rfl) rfl ?_)
    | refine x_op rfl (x_val (by first | exact r_own_add (i := 0) (by assumption) rfl rfl rfl | exact r_own_add (i := 1) (by assumption) rfl rfl rfl | exact r_own_add (i := 2) (by assumption) rfl rfl rfl | exact r_own_add (i := 3) (by assumption) rfl rfl rfl | exact r_own_add (i := 4) (by assumption) rfl rfl rfl | exact r_own_add (i := 5) (by assumption) rfl rfl rfl | exact r_own (i := 0) (by assumption) rfl rfl rfl | exact r_own (i := 1) (by assumption) rfl rfl rfl | exact r_own (i := 2) (by assumption) rfl rfl rfl | exact r_own (i := 3) (by assumption) rfl rfl rfl | exact r_own (i := 4) (by assumption) rfl rfl rfl | exact r_own (i := 5) (by assumption) rfl rfl rfl) rfl ?_)
    | refine x_op rfl (x_val (r_len_string (by assumption) rfl) rfl ?_)
    | refine x_op rfl (x_val (r_len_slice (by assumption) rfl) rfl ?_)
    | refine x_op rfl (x_val (r_cap_slice (by assumption) rfl) rfl ?_)
    | refine x_op rfl (x_val (r_not rfl rfl) rfl ?_)
    | refine x_op rfl (x_val (r_add rfl rfl ⟨by omega, by omega⟩) rfl ?_)
    | refine x_op rfl (x_val (r_sub rfl rfl ⟨by omega, by omega⟩) rfl ?_)
    | refine x_op rfl (x_val (r_build (by assumption) (by assumption) rfl rfl) rfl ?_)
    | refine x_op rfl (x_val (r_nilCheck rfl) rfl ?_)
    | refine x_op rfl (x_val (r_lss (r := true) rfl rfl (decide_eq_true (by omega))) rfl ?_)
    | refine x_op rfl (x_val (r_lss (r := false) rfl rfl (decide_eq_false (by omega))) rfl ?_)
    | refine x_op rfl (x_val (r_leq (r := true) rfl rfl (decide_eq_true (by omega))) rfl ?_)
    | refine x_op rfl (x_val (r_leq (r := false) rfl rfl (decide_eq_false (by omega))) rfl ?_)
    | refine x_op rfl (x_val (r_gtr (r := true) rfl rfl (decide_eq_true (by omega))) rfl ?_)
    | refine x_op rfl (x_val (r_gtr (r := false) rfl rfl (decide_eq_false (by omega))) rfl ?_)
    | refine x_op rfl (x_val (r_geq (r := true) rfl rfl (decide_eq_true (by omega))) rfl ?_)
    | refine x_op rfl (x_val (r_geq (r := false) rfl rfl (decide_eq_false (by omega))) rfl ?_)
    | refine x_op rfl (x_val (r_eql (r := true) rfl rfl (decide_eq_true (by omega))) rfl ?_)
    | refine x_op rfl (x_val (r_eql (r := false) rfl rfl (decide_eq_false (by omega))) rfl ?_)
    | refine x_op rfl (x_val (r_neq (r := true) rfl rfl (decide_eq_true (by omega))) rfl ?_)
    | refine x_op rfl (x_val (r_neq (r := false) rfl rfl (decide_eq_false (by omega))) rfl ?_)
    | refine x_op rfl (x_val (by first | exact r_ownN (i := 0) (by assumption) rfl rfl rfl | exact r_ownN (i := 1) (by assumption) rfl rfl rfl | exact r_ownN (i := 2) (by assumption) rfl rfl rfl | exact r_ownN (i := 3) (by assumption) rfl rfl rfl | exact r_ownN (i := 4) (by assumption) rfl rfl rfl | exact r_ownN (i := 5) (by assumption) rfl rfl rfl) rfl ?_)
    | refine x_op rfl (s_store (i := 0) (by assumption) rfl rfl rfl rfl rfl rfl ?_)
    | refine x_op rfl (s_store (i := 1) (by assumption) rfl rfl rfl rfl rfl rfl ?_)
    | refine x_op rfl (s_store (i := 2) (by assumption) rfl rfl rfl rfl rfl rfl ?_)
    | refine x_op rfl (s_store (i := 3) (by assumption) rfl rfl rfl rfl rfl rfl ?_)
    | refine x_op rfl (s_store (i := 4) (by assumption) rfl rfl rfl rfl rfl rfl ?_)
    | refine x_op rfl (s_store (i := 5) (by assumption) rfl rfl rfl rfl rfl rfl ?_)
    | refine x_op rfl (s_box rfl rfl fun b hb => ?_) | refine x_op rfl (s_alloc (by assumption) rfl fun b hb => ?_))
        exact x_there () ⟨rfl, rfl, rfl, by rw [hs]; rfl, trivial⟩ (fun _ h => h) trivial
    · have hs := hstop (fun h => hb h.1)
      repeat (first
    | refine x_seq ?_ | refine x_region ?_ | refine x_nil ?_ | refine x_block ?_ | refine x_skip ?_ | refine x_exit rfl ?_ | refine x_true rfl ?_ | refine x_false rfl ?_ | refine x_ret ?_ | refine x_tend ?_
    | refine x_off rfl rfl ?_ | refine x_off0 rfl ?_
    | refine x_op rfl (x_val (r_move rfl) rfl ?_)
    | refine x_op rfl (x_val (r_assign rfl) rfl ?_)
    | refine x_op rfl (x_val (r_extract rfl rfl) rfl ?_)
    | refine x_op rfl (x_val (r_pick_t rfl rfl) rfl ?_)
    | refine x_op rfl (x_val (r_pick_f rfl rfl) rfl ?_)
    | refine x_op rfl (x_val (r_fieldAddr (by assumption) rfl) rfl ?_)
    | refine x_op rfl (x_val (by first | exact r_own_add (i := 0) (by assumption) rfl rfl rfl | exact r_own_add (i := 1) (by assumption) rfl rfl rfl | exact r_own_add (i := 2) (by assumption) rfl rfl rfl | exact r_own_add (i := 3) (by assumption) rfl rfl rfl | exact r_own_add (i := 4) (by assumption) rfl rfl rfl | exact r_own_add (i := 5) (by assumption) rfl rfl rfl | exact r_own (i := 0) (by assumption) rfl rfl rfl | exact r_own (i := 1) (by assumption) rfl rfl rfl | exact r_own (i := 2) (by assumption) rfl rfl rfl | exact r_own (i := 3) (by assumption) rfl rfl rfl | exact r_own (i := 4) (by assumption) rfl rfl rfl | exact r_own (i := 5) (by assumption) rfl rfl rfl) rfl ?_)
    | refine x_op rfl (x_val (r_len_string (by assumption) rfl) rfl ?_)
    | refine x_op rfl (x_val (r_len_slice (by assumption) rfl) rfl ?_)
    | refine x_op rfl (x_val (r_cap_slice (by assumption) rfl) rfl ?_)
    | refine x_op rfl (x_val (r_not rfl rfl) rfl ?_)
    | refine x_op rfl (x_val (r_add rfl rfl ⟨by omega, by omega⟩) rfl ?_)
    | refine x_op rfl (x_val (r_sub rfl rfl ⟨by omega, by omega⟩) rfl ?_)
    | refine x_op rfl (x_val (r_build (by assumption) (by assumption) rfl rfl) rfl ?_)
    | refine x_op rfl (x_val (r_nilCheck rfl) rfl ?_)
    | refine x_op rfl (x_val (r_lss (r := true) rfl rfl (decide_eq_true (by omega))) rfl ?_)
    | refine x_op rfl (x_val (r_lss (r := false) rfl rfl (decide_eq_false (by omega))) rfl ?_)
    | refine x_op rfl (x_val (r_leq (r := true) rfl rfl (decide_eq_true (by omega))) rfl ?_)
    | refine x_op rfl (x_val (r_leq (r := false) rfl rfl (decide_eq_false (by omega))) rfl ?_)
    | refine x_op rfl (x_val (r_gtr (r := true) rfl rfl (decide_eq_true (by omega))) rfl ?_)
    | refine x_op rfl (x_val (r_gtr (r := false) rfl rfl (decide_eq_false (by omega))) rfl ?_)
    | refine x_op rfl (x_val (r_geq (r := true) rfl rfl (decide_eq_true (by omega))) rfl ?_)
    | refine x_op rfl (x_val (r_geq (r := false) rfl rfl (decide_eq_false (by omega))) rfl ?_)
    | refine x_op rfl (x_val (r_eql (r := true) rfl rfl (decide_eq_true (by omega))) rfl ?_)
    | refine x_op rfl (x_val (r_eql (r := false) rfl rfl (decide_eq_false (by omega))) rfl ?_)
    | refine x_op rfl (x_val (r_neq (r := true) rfl rfl (decide_eq_true (by omega))) rfl ?_)
    | refine x_op rfl (x_val (r_neq (r := false) rfl rfl (decide_eq_false (by omega))) rfl ?_)
    | refine x_op rfl (x_val (by first | exact r_ownN (i := 0) (by assumption) rfl rfl rfl | exact r_ownN (i := 1) (by assumption) rfl rfl rfl | exact r_ownN (i := 2) (by assumption) rfl rfl rfl | exact r_ownN (i := 3) (by assumption) rfl rfl rfl | exact r_ownN (i := 4) (by assumption) rfl rfl rfl | exact r_ownN (i := 5) (by assumption) rfl rfl rfl) rfl ?_)
    | refine x_op rfl (s_store (i := 0) (by assumption) rfl rfl rfl rfl rfl rfl ?_)
    | refine x_op rfl (s_store (i := 1) (by assumption) rfl rfl rfl rfl rfl rfl ?_)
    | refine x_op rfl (s_store (i := 2) (by assumption) rfl rfl rfl rfl rfl rfl ?_)
    | refine x_op rfl (s_store (i := 3) (by assumption) rfl rfl rfl rfl rfl rfl ?_)
    | refine x_op rfl (s_store (i := 4) (by assumption) rfl rfl rfl rfl rfl rfl ?_)
    | refine x_op rfl (s_store (i := 5) (by assumption) rfl rfl rfl rfl rfl rfl ?_)
    | refine x_op rfl (s_box rfl rfl fun b hb => ?_) | refine x_op rfl (s_alloc (by assumption) rfl fun b hb => ?_))
      exact x_there () ⟨rfl, rfl, rfl, by rw [hs]; rfl, trivial⟩ (fun _ h => h) trivial
  have hile : 1 ≤ splitI ps top ∧ (splitI ps top : Int) ≤ top := splitGo_le ps top _ 1 (by omega)
  have hF : splitF ⟨br, first, ps⟩ = (⟨br, first, ps.take (splitI ps top)⟩, (ps.getD (splitI ps top) (emptyB, emptyB)).1, if br then ⟨true, num4 (ps.getD (splitI ps top) (emptyB, emptyB)).2, ps.drop (splitI ps top + 1)⟩ else ⟨false, 0, ps.drop (splitI ps top)⟩, 0) := by
    have h1 : ¬ (⟨br, first, ps⟩ : Nd).top < 1 := by rw [← htop]; omega
    simp [splitF, hN, ← htop, htop1]
  rw [hF]
  clear herr hF
  generalize splitI ps top = i at hile
  have hc : ps[i]? = some (ps[i]'(by omega)) := List.getElem?_eq_getElem _
  have hD : ps.getD i (emptyB, emptyB) = ps[i]'(by omega) := by rw [List.getD_eq_getElem?_getD, hc]; rfl
  rw [hD]
  generalize ps[i]'(by omega) = p at hc hD
  have htk : fl (ps.take i) = (fl ps).take (i * 2) := (fl_take ps i).symm
  -- the first half's node
  refine x_cut (σ := Option Addr × Nat × Nat) (fun s => [(1, .pointer (some ⟨b0, 0, none⟩)), (2, .pointer (some ⟨b2, 0, none⟩)), (4, .pointer (some ⟨b4, 0, none⟩)), (8, .int .i64 i), (10, .pointer (some ⟨s.2.2, 0, none⟩))]) (fun s => [bl s.2.2 26 #[.bool br, .int .i64 first, .slice s.1 i s.2.1], sl s.1 s.2.1 36 2 (fl (ps.take i)), bl b4 26 #[.bool false, .int .i64 0, .slice none 0 0], bl b2 26 #[.bool false, .int .i64 0, .slice none 0 0], bl b0 26 #[.bool br, .int .i64 first, .slice (some ad) n c]])
    (fun s => SlOk s.1 i s.2.1 2 (fl (ps.take i))) ?_ ?_
  · refine x_text (by kernel_rfl) ?_
    repeat (first
    | refine x_tend ?_ | refine x_tkoff rfl rfl (fun _ h => h) ?_
    | refine x_tk rfl (r_move rfl) rfl (fun _ h => h) ?_
    | refine x_tk rfl (r_assign rfl) rfl (fun _ h => h) ?_
    | refine x_tk rfl (r_extract rfl rfl) rfl (fun _ h => h) ?_
    | refine x_tk rfl (r_pick_t rfl rfl) rfl (fun _ h => h) ?_
    | refine x_tk rfl (r_pick_f rfl rfl) rfl (fun _ h => h) ?_
    | refine x_tk rfl (r_fieldAddr (by assumption) rfl) rfl (fun _ h => h) ?_
    | refine x_tk rfl (by first | exact r_own_add (i := 0) (by assumption) rfl rfl rfl | exact r_own_add (i := 1) (by assumption) rfl rfl rfl | exact r_own_add (i := 2) (by assumption) rfl rfl rfl | exact r_own_add (i := 3) (by assumption) rfl rfl rfl | exact r_own_add (i := 4) (by assumption) rfl rfl rfl | exact r_own_add (i := 5) (by assumption) rfl rfl rfl | exact r_own (i := 0) (by assumption) rfl rfl rfl | exact r_own (i := 1) (by assumption) rfl rfl rfl | exact r_own (i := 2) (by assumption) rfl rfl rfl | exact r_own (i := 3) (by assumption) rfl rfl rfl | exact r_own (i := 4) (by assumption) rfl rfl rfl | exact r_own (i := 5) (by assumption) rfl rfl rfl) rfl (fun _ h => h) ?_
    | refine x_tk rfl (r_len_string (by assumption) rfl) rfl (fun _ h => h) ?_
    | refine x_tk rfl (r_len_slice (by assumption) rfl) rfl (fun _ h => h) ?_
    | refine x_tk rfl (r_cap_slice (by assumption) rfl) rfl (fun _ h => h) ?_
    | refine x_tk rfl (r_not rfl rfl) rfl (fun _ h => h) ?_
    | refine x_tk rfl (r_add rfl rfl ⟨by omega, by omega⟩) rfl (fun _ h => h) ?_
    | refine x_tk rfl (r_sub rfl rfl ⟨by omega, by omega⟩) rfl (fun _ h => h) ?_
    | refine x_tk rfl (r_build (by assumption) (by assumption) rfl rfl) rfl (fun _ h => h) ?_
    | refine x_tk rfl (r_nilCheck rfl) rfl (fun _ h => h) ?_
    | refine x_tk rfl (r_lss (r := true) rfl rfl (decide_eq_true (by omega))) rfl (fun _ h => h) ?_
    | refine x_tk rfl (r_lss (r := false) rfl rfl (decide_eq_false (by omega))) rfl (fun _ h => h) ?_
    | refine x_tk rfl (r_leq (r := true) rfl rfl (decide_eq_true (by omega))) rfl (fun _ h => h) ?_
    | refine x_tk rfl (r_leq (r := false) rfl rfl (decide_eq_false (by omega))) rfl (fun _ h => h) ?_
    | refine x_tk rfl (r_gtr (r := true) rfl rfl (decide_eq_true (by omega))) rfl (fun _ h => h) ?_
    | refine x_tk rfl (r_gtr (r := false) rfl rfl (decide_eq_false (by omega))) rfl (fun _ h => h) ?_
    | refine x_tk rfl (r_geq (r := true) rfl rfl (decide_eq_true (by omega))) rfl (fun _ h => h) ?_
    | refine x_tk rfl (r_geq (r := false) rfl rfl (decide_eq_false (by omega))) rfl (fun _ h => h) ?_
    | refine x_tk rfl (r_eql (r := true) rfl rfl (decide_eq_true (by omega))) rfl (fun _ h => h) ?_
    | refine x_tk rfl (r_eql (r := false) rfl rfl (decide_eq_false (by omega))) rfl (fun _ h => h) ?_
    | refine x_tk rfl (r_neq (r := true) rfl rfl (decide_eq_true (by omega))) rfl (fun _ h => h) ?_
    | refine x_tk rfl (r_neq (r := false) rfl rfl (decide_eq_false (by omega))) rfl (fun _ h => h) ?_
    | refine x_tk rfl (by first | exact r_ownN (i := 0) (by assumption) rfl rfl rfl | exact r_ownN (i := 1) (by assumption) rfl rfl rfl | exact r_ownN (i := 2) (by assumption) rfl rfl rfl | exact r_ownN (i := 3) (by assumption) rfl rfl rfl | exact r_ownN (i := 4) (by assumption) rfl rfl rfl | exact r_ownN (i := 5) (by assumption) rfl rfl rfl) rfl (fun _ h => h) ?_)
    refine x_tk rfl (r_slice_hi u22 i36 rfl rfl ⟨by omega, by omega⟩) rfl (fun _ h => h) ?_
    refine x_tany ?_
    have hrt : ∀ {w1 : World} {L : List Asn}, Own w [] L w1 → Rd w1 (some ad) i 2 (fl (ps.take i)) := fun hw => by rw [htk]; exact (hw.rd0 hr).take_ (by omega)
    have hlt : (ps.take i).length = i := by rw [List.length_take]; omega
    refine x_all [8, 10] (by kernel_rfl) ⟨?_, ?_, trivial⟩
    · refine x_do rfl rfl (s_call Ty.c14 rfl rfl (fun w hw => Clone_ (some ad) i c (ps.take i) w (hrt hw) (by omega)) (fun w v w1 hw h => ?_))
      obtain ⟨A', c', rfl, hok, hO⟩ := h
      refine ⟨_, hw.call0 hO, x_and (fun _ h => h.tail_) ?_⟩
      refine x_take 9 rfl (by kernel_rfl) rfl (r_build i26 p26 rfl rfl) rfl (fun _ h => h.tail_) ?_
      refine x_all [10] (by kernel_rfl) ⟨x_do rfl rfl (s_alloc i26 rfl fun b hb => x_and (fun _ h => h.tail_.tail_) ?_), trivial⟩
      refine x_all [11] (by kernel_rfl) ⟨x_do rfl rfl (s_store (i := 0) z26 rfl rfl rfl rfl rfl rfl (x_and (fun _ h => h.tail_.tail_) ?_)), trivial⟩
      refine x_done (by kernel_rfl) ?_
      exact x_there (A', c', b) ⟨rfl, rfl, rfl, rfl, rfl, trivial⟩ (fun _ h => h) hok
    · refine x_do rfl rfl (s_alloc i26 rfl fun b hb => x_and (fun _ h => h.tail_) ?_)
      refine x_all [8] (by kernel_rfl) ⟨?_, trivial⟩
      refine x_do rfl rfl (s_call Ty.c14 rfl rfl (fun w hw => Clone_ (some ad) i c (ps.take i) w (hrt hw) (by omega)) (fun w v w1 hw h => ?_))
      obtain ⟨A', c', rfl, hok, hO⟩ := h
      refine ⟨_, hw.call0 hO, x_and (fun _ h => h.tail_.tail_) ?_⟩
      refine x_take 9 rfl (by kernel_rfl) rfl (r_build i26 p26 rfl rfl) rfl (fun _ h => h.tail_.tail_) ?_
      refine x_all [11] (by kernel_rfl) ⟨x_do rfl rfl (s_store (i := 1) z26 rfl rfl rfl rfl rfl rfl (x_and (fun _ h => h.tail_.tail_) ?_)), trivial⟩
      refine x_done (by kernel_rfl) ?_
      exact x_there (A', c', b) ⟨rfl, rfl, rfl, rfl, rfl, trivial⟩ (fun _ h => h.pick_ [1, 0, 2, 3, 4] (by decide)) hok
  rintro ⟨A1, c1, b10⟩ hok1
  simp only [] at hok1 ⊢
  refine x_seq ?_
  repeat (first
    | refine x_region ?_ | refine x_nil ?_ | refine x_tend ?_
    | refine x_off rfl rfl ?_ | refine x_off0 rfl ?_
    | refine x_op rfl (x_val (r_move rfl) rfl ?_)
    | refine x_op rfl (x_val (r_assign rfl) rfl ?_)
    | refine x_op rfl (x_val (r_extract rfl rfl) rfl ?_)
    | refine x_op rfl (x_val (r_pick_t rfl rfl) rfl ?_)
    | refine x_op rfl (x_val (r_pick_f rfl rfl) rfl ?_)
    | refine x_op rfl (x_val (r_fieldAddr (by assumption) rfl) rfl ?_)
    | refine x_op rfl (x_val (by first | exact r_own_add (i := 0) (by assumption) rfl rfl rfl | exact r_own_add (i := 1) (by assumption) rfl rfl rfl | exact r_own_add (i := 2) (by assumption) rfl rfl rfl | exact r_own_add (i := 3) (by assumption) rfl rfl rfl | exact r_own_add (i := 4) (by assumption) rfl rfl rfl | exact r_own_add (i := 5) (by assumption) rfl rfl rfl | exact r_own (i := 0) (by assumption) rfl rfl rfl | exact r_own (i := 1) (by assumption) rfl rfl rfl | exact r_own (i := 2) (by assumption) rfl rfl rfl | exact r_own (i := 3) (by assumption) rfl rfl rfl | exact r_own (i := 4) (by assumption) rfl rfl rfl | exact r_own (i := 5) (by assumption) rfl rfl rfl) rfl ?_)
    | refine x_op rfl (x_val (r_len_string (by assumption) rfl) rfl ?_)
    | refine x_op rfl (x_val (r_len_slice (by assumption) rfl) rfl ?_)
    | refine x_op rfl (x_val (r_cap_slice (by assumption) rfl) rfl ?_)
    | refine x_op rfl (x_val (r_not rfl rfl) rfl ?_)
    | refine x_op rfl (x_val (r_add rfl rfl ⟨by omega, by omega⟩) rfl ?_)
    | refine x_op rfl (x_val (r_sub rfl rfl ⟨by omega, by omega⟩) rfl ?_)
    | refine x_op rfl (x_val (r_build (by assumption) (by assumption) rfl rfl) rfl ?_)
    | refine x_op rfl (x_val (r_nilCheck rfl) rfl ?_)
    | refine x_op rfl (x_val (r_lss (r := true) rfl rfl (decide_eq_true (by omega))) rfl ?_)
    | refine x_op rfl (x_val (r_lss (r := false) rfl rfl (decide_eq_false (by omega))) rfl ?_)
    | refine x_op rfl (x_val (r_leq (r := true) rfl rfl (decide_eq_true (by omega))) rfl ?_)
    | refine x_op rfl (x_val (r_leq (r := false) rfl rfl (decide_eq_false (by omega))) rfl ?_)
    | refine x_op rfl (x_val (r_gtr (r := true) rfl rfl (decide_eq_true (by omega))) rfl ?_)
    | refine x_op rfl (x_val (r_gtr (r := false) rfl rfl (decide_eq_false (by omega))) rfl ?_)
    | refine x_op rfl (x_val (r_geq (r := true) rfl rfl (decide_eq_true (by omega))) rfl ?_)
    | refine x_op rfl (x_val (r_geq (r := false) rfl rfl (decide_eq_false (by omega))) rfl ?_)
    | refine x_op rfl (x_val (r_eql (r := true) rfl rfl (decide_eq_true (by omega))) rfl ?_)
    | refine x_op rfl (x_val (r_eql (r := false) rfl rfl (decide_eq_false (by omega))) rfl ?_)
    | refine x_op rfl (x_val (r_neq (r := true) rfl rfl (decide_eq_true (by omega))) rfl ?_)
    | refine x_op rfl (x_val (r_neq (r := false) rfl rfl (decide_eq_false (by omega))) rfl ?_)
    | refine x_op rfl (x_val (by first | exact r_ownN (i := 0) (by assumption) rfl rfl rfl | exact r_ownN (i := 1) (by assumption) rfl rfl rfl | exact r_ownN (i := 2) (by assumption) rfl rfl rfl | exact r_ownN (i := 3) (by assumption) rfl rfl rfl | exact r_ownN (i := 4) (by assumption) rfl rfl rfl | exact r_ownN (i := 5) (by assumption) rfl rfl rfl) rfl ?_)
    | refine x_op rfl (s_store (i := 0) (by assumption) rfl rfl rfl rfl rfl rfl ?_)
    | refine x_op rfl (s_store (i := 1) (by assumption) rfl rfl rfl rfl rfl rfl ?_)
    | refine x_op rfl (s_store (i := 2) (by assumption) rfl rfl rfl rfl rfl rfl ?_)
    | refine x_op rfl (s_store (i := 3) (by assumption) rfl rfl rfl rfl rfl rfl ?_)
    | refine x_op rfl (s_store (i := 4) (by assumption) rfl rfl rfl rfl rfl rfl ?_)
    | refine x_op rfl (s_store (i := 5) (by assumption) rfl rfl rfl rfl rfl rfl ?_)
    | refine x_op rfl (s_box rfl rfl fun b hb => ?_) | refine x_op rfl (s_alloc (by assumption) rfl fun b hb => ?_))
  refine x_op rfl (x_val (r_indexAddr u22 i36 rfl rfl ⟨by omega, by omega⟩) rfl ?_)
  refine x_op rfl (x_val (r_loadN [.string p.1, .string p.2] z36 rfl rfl fun w hS => pair_ (hS.rd0 hr) hc) rfl ?_)
  repeat (first
    | refine x_region ?_ | refine x_nil ?_ | refine x_tend ?_
    | refine x_off rfl rfl ?_ | refine x_off0 rfl ?_
    | refine x_op rfl (x_val (r_move rfl) rfl ?_)
    | refine x_op rfl (x_val (r_assign rfl) rfl ?_)
    | refine x_op rfl (x_val (r_extract rfl rfl) rfl ?_)
    | refine x_op rfl (x_val (r_pick_t rfl rfl) rfl ?_)
    | refine x_op rfl (x_val (r_pick_f rfl rfl) rfl ?_)
    | refine x_op rfl (x_val (r_fieldAddr (by assumption) rfl) rfl ?_)
    | refine x_op rfl (x_val (by first | exact r_own_add (i := 0) (by assumption) rfl rfl rfl | exact r_own_add (i := 1) (by assumption) rfl rfl rfl | exact r_own_add (i := 2) (by assumption) rfl rfl rfl | exact r_own_add (i := 3) (by assumption) rfl rfl rfl | exact r_own_add (i := 4) (by assumption) rfl rfl rfl | exact r_own_add (i := 5) (by assumption) rfl rfl rfl | exact r_own (i := 0) (by assumption) rfl rfl rfl | exact r_own (i := 1) (by assumption) rfl rfl rfl | exact r_own (i := 2) (by assumption) rfl rfl rfl | exact r_own (i := 3) (by assumption) rfl rfl rfl | exact r_own (i := 4) (by assumption) rfl rfl rfl | exact r_own (i := 5) (by assumption) rfl rfl rfl) rfl ?_)
    | refine x_op rfl (x_val (r_len_string (by assumption) rfl) rfl ?_)
    | refine x_op rfl (x_val (r_len_slice (by assumption) rfl) rfl ?_)
    | refine x_op rfl (x_val (r_cap_slice (by assumption) rfl) rfl ?_)
    | refine x_op rfl (x_val (r_not rfl rfl) rfl ?_)
    | refine x_op rfl (x_val (r_add rfl rfl ⟨by omega, by omega⟩) rfl ?_)
    | refine x_op rfl (x_val (r_sub rfl rfl ⟨by omega, by omega⟩) rfl ?_)
    | refine x_op rfl (x_val (r_build (by assumption) (by assumption) rfl rfl) rfl ?_)
    | refine x_op rfl (x_val (r_nilCheck rfl) rfl ?_)
    | refine x_op rfl (x_val (r_lss (r := true) rfl rfl (decide_eq_true (by omega))) rfl ?_)
    | refine x_op rfl (x_val (r_lss (r := false) rfl rfl (decide_eq_false (by omega))) rfl ?_)
    | refine x_op rfl (x_val (r_leq (r := true) rfl rfl (decide_eq_true (by omega))) rfl ?_)
    | refine x_op rfl (x_val (r_leq (r := false) rfl rfl (decide_eq_false (by omega))) rfl ?_)
    | refine x_op rfl (x_val (r_gtr (r := true) rfl rfl (decide_eq_true (by omega))) rfl ?_)
    | refine x_op rfl (x_val (r_gtr (r := false) rfl rfl (decide_eq_false (by omega))) rfl ?_)
    | refine x_op rfl (x_val (r_geq (r := true) rfl rfl (decide_eq_true (by omega))) rfl ?_)
    | refine x_op rfl (x_val (r_geq (r := false) rfl rfl (decide_eq_false (by omega))) rfl ?_)
    | refine x_op rfl (x_val (r_eql (r := true) rfl rfl (decide_eq_true (by omega))) rfl ?_)
    | refine x_op rfl (x_val (r_eql (r := false) rfl rfl (decide_eq_false (by omega))) rfl ?_)
    | refine x_op rfl (x_val (r_neq (r := true) rfl rfl (decide_eq_true (by omega))) rfl ?_)
    | refine x_op rfl (x_val (r_neq (r := false) rfl rfl (decide_eq_false (by omega))) rfl ?_)
    | refine x_op rfl (x_val (by first | exact r_ownN (i := 0) (by assumption) rfl rfl rfl | exact r_ownN (i := 1) (by assumption) rfl rfl rfl | exact r_ownN (i := 2) (by assumption) rfl rfl rfl | exact r_ownN (i := 3) (by assumption) rfl rfl rfl | exact r_ownN (i := 4) (by assumption) rfl rfl rfl | exact r_ownN (i := 5) (by assumption) rfl rfl rfl) rfl ?_)
    | refine x_op rfl (s_store (i := 0) (by assumption) rfl rfl rfl rfl rfl rfl ?_)
    | refine x_op rfl (s_store (i := 1) (by assumption) rfl rfl rfl rfl rfl rfl ?_)
    | refine x_op rfl (s_store (i := 2) (by assumption) rfl rfl rfl rfl rfl rfl ?_)
    | refine x_op rfl (s_store (i := 3) (by assumption) rfl rfl rfl rfl rfl rfl ?_)
    | refine x_op rfl (s_store (i := 4) (by assumption) rfl rfl rfl rfl rfl rfl ?_)
    | refine x_op rfl (s_store (i := 5) (by assumption) rfl rfl rfl rfl rfl rfl ?_)
    | refine x_op rfl (s_box rfl rfl fun b hb => ?_) | refine x_op rfl (s_alloc (by assumption) rfl fun b hb => ?_))
  obtain ⟨b11, hbb⟩ : ∃ x, x = b := ⟨b, rfl⟩; subst hbb
  repeat (first
    | refine x_seq ?_ | refine x_region ?_ | refine x_nil ?_ | refine x_block ?_ | refine x_skip ?_ | refine x_exit rfl ?_ | refine x_true rfl ?_ | refine x_false rfl ?_ | refine x_ret ?_ | refine x_tend ?_
    | refine x_off rfl rfl ?_ | refine x_off0 rfl ?_
    | refine x_op rfl (x_val (r_move rfl) rfl ?_)
    | refine x_op rfl (x_val (r_assign rfl) rfl ?_)
    | refine x_op rfl (x_val (r_extract rfl rfl) rfl ?_)
    | refine x_op rfl (x_val (r_pick_t rfl rfl) rfl ?_)
    | refine x_op rfl (x_val (r_pick_f rfl rfl) rfl ?_)
    | refine x_op rfl (x_val (r_fieldAddr (by assumption) rfl) rfl ?_)
    | refine x_op rfl (x_val (by first | exact r_own_add (i := 0) (by assumption) rfl rfl rfl | exact r_own_add (i := 1) (by assumption) rfl rfl rfl | exact r_own_add (i := 2) (by assumption) rfl rfl rfl | exact r_own_add (i := 3) (by assumption) rfl rfl rfl | exact r_own_add (i := 4) (by assumption) rfl rfl rfl | exact r_own_add (i := 5) (by assumption) rfl rfl rfl | exact r_own (i := 0) (by assumption) rfl rfl rfl | exact r_own (i := 1) (by assumption) rfl rfl rfl | exact r_own (i := 2) (by assumption) rfl rfl rfl | exact r_own (i := 3) (by assumption) rfl rfl rfl | exact r_own (i := 4) (by assumption) rfl rfl rfl | exact r_own (i := 5) (by assumption) rfl rfl rfl) rfl ?_)
    | refine x_op rfl (x_val (r_len_string (by assumption) rfl) rfl ?_)
    | refine x_op rfl (x_val (r_len_slice (by assumption) rfl) rfl ?_)
    | refine x_op rfl (x_val (r_cap_slice (by assumption) rfl) rfl ?_)
    | refine x_op rfl (x_val (r_not rfl rfl) rfl ?_)
    | refine x_op rfl (x_val (r_add rfl rfl ⟨by omega, by omega⟩) rfl ?_)
    | refine x_op rfl (x_val (r_sub rfl rfl ⟨by omega, by omega⟩) rfl ?_)
    | refine x_op rfl (x_val (r_build (by assumption) (by assumption) rfl rfl) rfl ?_)
    | refine x_op rfl (x_val (r_nilCheck rfl) rfl ?_)
    | refine x_op rfl (x_val (r_lss (r := true) rfl rfl (decide_eq_true (by omega))) rfl ?_)
    | refine x_op rfl (x_val (r_lss (r := false) rfl rfl (decide_eq_false (by omega))) rfl ?_)
    | refine x_op rfl (x_val (r_leq (r := true) rfl rfl (decide_eq_true (by omega))) rfl ?_)
    | refine x_op rfl (x_val (r_leq (r := false) rfl rfl (decide_eq_false (by omega))) rfl ?_)
    | refine x_op rfl (x_val (r_gtr (r := true) rfl rfl (decide_eq_true (by omega))) rfl ?_)
    | refine x_op rfl (x_val (r_gtr (r := false) rfl rfl (decide_eq_false (by omega))) rfl ?_)
    | refine x_op rfl (x_val (r_geq (r := true) rfl rfl (decide_eq_true (by omega))) rfl ?_)
    | refine x_op rfl (x_val (r_geq (r := false) rfl rfl (decide_eq_false (by omega))) rfl ?_)
    | refine x_op rfl (x_val (r_eql (r := true) rfl rfl (decide_eq_true (by omega))) rfl ?_)
    | refine x_op rfl (x_val (r_eql (r := false) rfl rfl (decide_eq_false (by omega))) rfl ?_)
    | refine x_op rfl (x_val (r_neq (r := true) rfl rfl (decide_eq_true (by omega))) rfl ?_)
    | refine x_op rfl (x_val (r_neq (r := false) rfl rfl (decide_eq_false (by omega))) rfl ?_)
    | refine x_op rfl (x_val (by first | exact r_ownN (i := 0) (by assumption) rfl rfl rfl | exact r_ownN (i := 1) (by assumption) rfl rfl rfl | exact r_ownN (i := 2) (by assumption) rfl rfl rfl | exact r_ownN (i := 3) (by assumption) rfl rfl rfl | exact r_ownN (i := 4) (by assumption) rfl rfl rfl | exact r_ownN (i := 5) (by assumption) rfl rfl rfl) rfl ?_)
    | refine x_op rfl (s_store (i := 0) (by assumption) rfl rfl rfl rfl rfl rfl ?_)
    | refine x_op rfl (s_store (i := 1) (by assumption) rfl rfl rfl rfl rfl rfl ?_)
    | refine x_op rfl (s_store (i := 2) (by assumption) rfl rfl rfl rfl rfl rfl ?_)
    | refine x_op rfl (s_store (i := 3) (by assumption) rfl rfl rfl rfl rfl rfl ?_)
    | refine x_op rfl (s_store (i := 4) (by assumption) rfl rfl rfl rfl rfl rfl ?_)
    | refine x_op rfl (s_store (i := 5) (by assumption) rfl rfl rfl rfl rfl rfl ?_)
    | refine x_op rfl (s_box rfl rfl fun b hb => ?_) | refine x_op rfl (s_alloc (by assumption) rfl fun b hb => ?_))
  have hpv := (hsp.2.2 p (List.mem_of_getElem? hc)).2.2
  have hlt : (ps.take i).length = i := by rw [List.length_take]; omega
  have hok1' : SlOk A1 (ps.take i).length c1 2 (fl (ps.take i)) := by rw [hlt]; exact hok1
  cases br
  · -- a leaf
    simp only [Bool.false_eq_true, if_false] at htop' ⊢
    have hrt : ∀ {w1 : World} {L : List Asn}, Own w [] L w1 → Rd w1 (if c = i then some ad else (some ad).map (·.add (i * 2))) (n - i) 2 (fl (ps.drop i)) := fun hw => by rw [← fl_drop]; exact (hw.rd0 hr).drop_ (by omega) hnc
    have hld : (ps.drop i).length = n - i := by rw [List.length_drop, hlen]
    repeat (first
    | refine x_seq ?_ | refine x_region ?_ | refine x_nil ?_ | refine x_block ?_ | refine x_skip ?_ | refine x_exit rfl ?_ | refine x_true rfl ?_ | refine x_false rfl ?_ | refine x_ret ?_ | refine x_tend ?_
    | refine x_off rfl rfl ?_ | refine x_off0 rfl ?_
    | refine x_op rfl (x_val (r_move rfl) rfl ?_)
    | refine x_op rfl (x_val (r_assign rfl) rfl ?_)
    | refine x_op rfl (x_val (r_extract rfl rfl) rfl ?_)
    | refine x_op rfl (x_val (r_pick_t rfl rfl) rfl ?_)
    | refine x_op rfl (x_val (r_pick_f rfl rfl) rfl ?_)
    | refine x_op rfl (x_val (r_fieldAddr (by assumption) rfl) rfl ?_)
    | refine x_op rfl (x_val (by first | exact r_own_add (i := 0) (by assumption) rfl rfl rfl | exact r_own_add (i := 1) (by assumption) rfl rfl rfl | exact r_own_add (i := 2) (by assumption) rfl rfl rfl | exact r_own_add (i := 3) (by assumption) rfl rfl rfl | exact r_own_add (i := 4) (by assumption) rfl rfl rfl | exact r_own_add (i := 5) (by assumption) rfl rfl rfl | exact r_own (i := 0) (by assumption) rfl rfl rfl | exact r_own (i := 1) (by assumption) rfl rfl rfl | exact r_own (i := 2) (by assumption) rfl rfl rfl | exact r_own (i := 3) (by assumption) rfl rfl rfl | exact r_own (i := 4) (by assumption) rfl rfl rfl | exact r_own (i := 5) (by assumption) rfl rfl rfl) rfl ?_)
    | refine x_op rfl (x_val (r_len_string (by assumption) rfl) rfl ?_)
    | refine x_op rfl (x_val (r_len_slice (by assumption) rfl) rfl ?_)
    | refine x_op rfl (x_val (r_cap_slice (by assumption) rfl) rfl ?_)
    | refine x_op rfl (x_val (r_not rfl rfl) rfl ?_)
    | refine x_op rfl (x_val (r_add rfl rfl ⟨by omega, by omega⟩) rfl ?_)
    | refine x_op rfl (x_val (r_sub rfl rfl ⟨by omega, by omega⟩) rfl ?_)
    | refine x_op rfl (x_val (r_build (by assumption) (by assumption) rfl rfl) rfl ?_)
    | refine x_op rfl (x_val (r_nilCheck rfl) rfl ?_)
    | refine x_op rfl (x_val (r_lss (r := true) rfl rfl (decide_eq_true (by omega))) rfl ?_)
    | refine x_op rfl (x_val (r_lss (r := false) rfl rfl (decide_eq_false (by omega))) rfl ?_)
    | refine x_op rfl (x_val (r_leq (r := true) rfl rfl (decide_eq_true (by omega))) rfl ?_)
    | refine x_op rfl (x_val (r_leq (r := false) rfl rfl (decide_eq_false (by omega))) rfl ?_)
    | refine x_op rfl (x_val (r_gtr (r := true) rfl rfl (decide_eq_true (by omega))) rfl ?_)
    | refine x_op rfl (x_val (r_gtr (r := false) rfl rfl (decide_eq_false (by omega))) rfl ?_)
    | refine x_op rfl (x_val (r_geq (r := true) rfl rfl (decide_eq_true (by omega))) rfl ?_)
    | refine x_op rfl (x_val (r_geq (r := false) rfl rfl (decide_eq_false (by omega))) rfl ?_)
    | refine x_op rfl (x_val (r_eql (r := true) rfl rfl (decide_eq_true (by omega))) rfl ?_)
    | refine x_op rfl (x_val (r_eql (r := false) rfl rfl (decide_eq_false (by omega))) rfl ?_)
    | refine x_op rfl (x_val (r_neq (r := true) rfl rfl (decide_eq_true (by omega))) rfl ?_)
    | refine x_op rfl (x_val (r_neq (r := false) rfl rfl (decide_eq_false (by omega))) rfl ?_)
    | refine x_op rfl (x_val (by first | exact r_ownN (i := 0) (by assumption) rfl rfl rfl | exact r_ownN (i := 1) (by assumption) rfl rfl rfl | exact r_ownN (i := 2) (by assumption) rfl rfl rfl | exact r_ownN (i := 3) (by assumption) rfl rfl rfl | exact r_ownN (i := 4) (by assumption) rfl rfl rfl | exact r_ownN (i := 5) (by assumption) rfl rfl rfl) rfl ?_)
    | refine x_op rfl (s_store (i := 0) (by assumption) rfl rfl rfl rfl rfl rfl ?_)
    | refine x_op rfl (s_store (i := 1) (by assumption) rfl rfl rfl rfl rfl rfl ?_)
    | refine x_op rfl (s_store (i := 2) (by assumption) rfl rfl rfl rfl rfl rfl ?_)
    | refine x_op rfl (s_store (i := 3) (by assumption) rfl rfl rfl rfl rfl rfl ?_)
    | refine x_op rfl (s_store (i := 4) (by assumption) rfl rfl rfl rfl rfl rfl ?_)
    | refine x_op rfl (s_store (i := 5) (by assumption) rfl rfl rfl rfl rfl rfl ?_)
    | refine x_op rfl (s_box rfl rfl fun b hb => ?_) | refine x_op rfl (s_alloc (by assumption) rfl fun b hb => ?_))
    refine x_textS [bl b11 36 #[.string p.1, .string p.2], bl b10 26 #[.bool false, .int .i64 first, .slice A1 i c1], bl b0 26 #[.bool false, .int .i64 first, .slice (some ad) n c]] (by kernel_rfl) (fun _ h => h.pick_ [0, 1, 5] (by decide)) ?_
    refine x_tk rfl (r_ownN (i := 1) (cs := [.bool false, .int .i64 first, .slice A1 i c1]) z26 rfl rfl rfl) rfl (fun _ h => h.pick_ [0, 1, 5] (by decide)) ?_
    refine x_tk rfl (r_fieldAddr q36_0 rfl) rfl (fun _ h => h.pick_ [0, 1, 5] (by decide)) ?_
    refine x_tk rfl (r_own_add (i := 0) z9 rfl rfl rfl) rfl (fun _ h => h.pick_ [0, 1, 5] (by decide)) ?_
    refine x_tk rfl (r_fieldAddr q26_2 rfl) rfl (fun _ h => h.pick_ [0, 1, 5] (by decide)) ?_
    refine x_tk rfl (r_own_add (i := 2) z22 rfl rfl rfl) rfl (fun _ h => h.pick_ [0, 1, 5] (by decide)) ?_
    refine x_tk rfl (r_move rfl) rfl (fun _ h => h.pick_ [0, 1, 5] (by decide)) ?_
    refine x_tk rfl (r_slice_lo u22 i36 rfl rfl ⟨by omega, by omega⟩ hnc) rfl (fun _ h => h.pick_ [0, 1, 5] (by decide)) ?_
    refine x_tany ?_
    refine x_all [7] (by kernel_rfl) ⟨x_do rfl rfl (s_call Ty.c14 rfl rfl (fun w hw => Clone_ _ (n - i) (c - i) (ps.drop i) w (hrt hw) (by omega)) (fun wq v wq1 hw h => ?_)), trivial⟩
    obtain ⟨A2, c2, rfl, hok2, hO⟩ := h
    refine ⟨_, hw.call0 hO, x_and (fun _ h => h.pick_ [1, 2, 6] (by decide)) ?_⟩
    refine x_take 8 rfl (by kernel_rfl) rfl (r_build i26 p26 rfl rfl) rfl (fun _ h => h.pick_ [1, 2, 6] (by decide)) ?_
    refine x_all [9] (by kernel_rfl) ⟨x_do rfl rfl (s_store (i := 5) z26 rfl rfl rfl rfl rfl rfl (x_and (fun _ h => h.pick_ [1, 2, 6] (by decide)) ?_)), trivial⟩
    refine x_take 10 rfl (by kernel_rfl) rfl (r_assign rfl) rfl (fun _ h => h.pick_ [1, 2, 6] (by decide)) ?_
    refine x_all [11] (by kernel_rfl) ⟨x_do rfl rfl (s_store (i := 4) z26 rfl rfl rfl rfl rfl rfl (x_and (fun _ h => h.pick_ [1, 2, 6] (by decide)) ?_)), trivial⟩
    refine x_take 12 rfl (by kernel_rfl) rfl (r_assign rfl) rfl (fun _ h => h.pick_ [1, 2, 6] (by decide)) ?_
    refine x_done (by kernel_rfl) ?_
    repeat (first
    | refine x_seq ?_ | refine x_region ?_ | refine x_nil ?_ | refine x_block ?_ | refine x_skip ?_ | refine x_exit rfl ?_ | refine x_true rfl ?_ | refine x_false rfl ?_ | refine x_ret ?_ | refine x_tend ?_
    | refine x_off rfl rfl ?_ | refine x_off0 rfl ?_
    | refine x_op rfl (x_val (r_move rfl) rfl ?_)
    | refine x_op rfl (x_val (r_assign rfl) rfl ?_)
    | refine x_op rfl (x_val (r_extract rfl rfl) rfl ?_)
    | refine x_op rfl (x_val (r_pick_t rfl rfl) rfl ?_)
    | refine x_op rfl (x_val (r_pick_f rfl rfl) rfl ?_)
    | refine x_op rfl (x_val (r_fieldAddr (by assumption) rfl) rfl ?_)
    | refine x_op rfl (x_val (by first | exact r_own_add (i := 0) (by assumption) rfl rfl rfl | exact r_own_add (i := 1) (by assumption) rfl rfl rfl | exact r_own_add (i := 2) (by assumption) rfl rfl rfl | exact r_own_add (i := 3) (by assumption) rfl rfl rfl | exact r_own_add (i := 4) (by assumption) rfl rfl rfl | exact r_own_add (i := 5) (by assumption) rfl rfl rfl | exact r_own (i := 0) (by assumption) rfl rfl rfl | exact r_own (i := 1) (by assumption) rfl rfl rfl | exact r_own (i := 2) (by assumption) rfl rfl rfl | exact r_own (i := 3) (by assumption) rfl rfl rfl | exact r_own (i := 4) (by assumption) rfl rfl rfl | exact r_own (i := 5) (by assumption) rfl rfl rfl) rfl ?_)
    | refine x_op rfl (x_val (r_len_string (by assumption) rfl) rfl ?_)
    | refine x_op rfl (x_val (r_len_slice (by assumption) rfl) rfl ?_)
    | refine x_op rfl (x_val (r_cap_slice (by assumption) rfl) rfl ?_)
    | refine x_op rfl (x_val (r_not rfl rfl) rfl ?_)
    | refine x_op rfl (x_val (r_add rfl rfl ⟨by omega, by omega⟩) rfl ?_)
    | refine x_op rfl (x_val (r_sub rfl rfl ⟨by omega, by omega⟩) rfl ?_)
    | refine x_op rfl (x_val (r_build (by assumption) (by assumption) rfl rfl) rfl ?_)
    | refine x_op rfl (x_val (r_nilCheck rfl) rfl ?_)
    | refine x_op rfl (x_val (r_lss (r := true) rfl rfl (decide_eq_true (by omega))) rfl ?_)
    | refine x_op rfl (x_val (r_lss (r := false) rfl rfl (decide_eq_false (by omega))) rfl ?_)
    | refine x_op rfl (x_val (r_leq (r := true) rfl rfl (decide_eq_true (by omega))) rfl ?_)
    | refine x_op rfl (x_val (r_leq (r := false) rfl rfl (decide_eq_false (by omega))) rfl ?_)
    | refine x_op rfl (x_val (r_gtr (r := true) rfl rfl (decide_eq_true (by omega))) rfl ?_)
    | refine x_op rfl (x_val (r_gtr (r := false) rfl rfl (decide_eq_false (by omega))) rfl ?_)
    | refine x_op rfl (x_val (r_geq (r := true) rfl rfl (decide_eq_true (by omega))) rfl ?_)
    | refine x_op rfl (x_val (r_geq (r := false) rfl rfl (decide_eq_false (by omega))) rfl ?_)
    | refine x_op rfl (x_val (r_eql (r := true) rfl rfl (decide_eq_true (by omega))) rfl ?_)
    | refine x_op rfl (x_val (r_eql (r := false) rfl rfl (decide_eq_false (by omega))) rfl ?_)
    | refine x_op rfl (x_val (r_neq (r := true) rfl rfl (decide_eq_true (by omega))) rfl ?_)
    | refine x_op rfl (x_val (r_neq (r := false) rfl rfl (decide_eq_false (by omega))) rfl ?_)
    | refine x_op rfl (x_val (by first | exact r_ownN (i := 0) (by assumption) rfl rfl rfl | exact r_ownN (i := 1) (by assumption) rfl rfl rfl | exact r_ownN (i := 2) (by assumption) rfl rfl rfl | exact r_ownN (i := 3) (by assumption) rfl rfl rfl | exact r_ownN (i := 4) (by assumption) rfl rfl rfl | exact r_ownN (i := 5) (by assumption) rfl rfl rfl) rfl ?_)
    | refine x_op rfl (s_store (i := 0) (by assumption) rfl rfl rfl rfl rfl rfl ?_)
    | refine x_op rfl (s_store (i := 1) (by assumption) rfl rfl rfl rfl rfl rfl ?_)
    | refine x_op rfl (s_store (i := 2) (by assumption) rfl rfl rfl rfl rfl rfl ?_)
    | refine x_op rfl (s_store (i := 3) (by assumption) rfl rfl rfl rfl rfl rfl ?_)
    | refine x_op rfl (s_store (i := 4) (by assumption) rfl rfl rfl rfl rfl rfl ?_)
    | refine x_op rfl (s_store (i := 5) (by assumption) rfl rfl rfl rfl rfl rfl ?_)
    | refine x_op rfl (s_box rfl rfl fun b hb => ?_) | refine x_op rfl (s_alloc (by assumption) rfl fun b hb => ?_))
    exact x_rets (rs := [_, _]) (vs := [_, _]) rfl ⟨res_own (i := 5) (cs := [.bool false, .int .i64 first, .slice A1 i c1]) rfl rfl z26 rfl, rfl, res_own (i := 4) (cs := [.bool false, .int .i64 0, .slice A2 (n - i) c2]) rfl rfl z26 rfl, rfl, trivial⟩ fun w1 hO => ⟨_, rfl, A1, c1, A2, c2, by simp [Nd.val, hlt, hld], hok1', by rw [hld]; exact hok2, hO.pick_ [3, 0] (by decide)⟩
  · -- a branch
    simp only [if_true] at htop' ⊢
    have hrt : ∀ {w1 : World} {L : List Asn}, Own w [] L w1 → Rd w1 (if c = i + 1 then some ad else (some ad).map (·.add ((i + 1) * 2))) (n - (i + 1)) 2 (fl (ps.drop (i + 1))) := fun hw => by rw [← fl_drop]; exact (hw.rd0 hr).drop_ (by omega) hnc
    have hld : (ps.drop (i + 1)).length = n - (i + 1) := by rw [List.length_drop, hlen]
    have hp4 : p.2.size = 4 := by simp only [valOk, if_true, Bool.and_eq_true, decide_eq_true_eq] at hpv; omega
    repeat (first
    | refine x_seq ?_ | refine x_region ?_ | refine x_nil ?_ | refine x_block ?_ | refine x_skip ?_ | refine x_exit rfl ?_ | refine x_true rfl ?_ | refine x_false rfl ?_ | refine x_ret ?_ | refine x_tend ?_
    | refine x_off rfl rfl ?_ | refine x_off0 rfl ?_
    | refine x_op rfl (x_val (r_move rfl) rfl ?_)
    | refine x_op rfl (x_val (r_assign rfl) rfl ?_)
    | refine x_op rfl (x_val (r_extract rfl rfl) rfl ?_)
    | refine x_op rfl (x_val (r_pick_t rfl rfl) rfl ?_)
    | refine x_op rfl (x_val (r_pick_f rfl rfl) rfl ?_)
    | refine x_op rfl (x_val (r_fieldAddr (by assumption) rfl) rfl ?_)
    | refine x_op rfl (x_val (by first | exact r_own_add (i := 0) (by assumption) rfl rfl rfl | exact r_own_add (i := 1) (by assumption) rfl rfl rfl | exact r_own_add (i := 2) (by assumption) rfl rfl rfl | exact r_own_add (i := 3) (by assumption) rfl rfl rfl | exact r_own_add (i := 4) (by assumption) rfl rfl rfl | exact r_own_add (i := 5) (by assumption) rfl rfl rfl | exact r_own (i := 0) (by assumption) rfl rfl rfl | exact r_own (i := 1) (by assumption) rfl rfl rfl | exact r_own (i := 2) (by assumption) rfl rfl rfl | exact r_own (i := 3) (by assumption) rfl rfl rfl | exact r_own (i := 4) (by assumption) rfl rfl rfl | exact r_own (i := 5) (by assumption) rfl rfl rfl) rfl ?_)
    | refine x_op rfl (x_val (r_len_string (by assumption) rfl) rfl ?_)
    | refine x_op rfl (x_val (r_len_slice (by assumption) rfl) rfl ?_)
    | refine x_op rfl (x_val (r_cap_slice (by assumption) rfl) rfl ?_)
    | refine x_op rfl (x_val (r_not rfl rfl) rfl ?_)
    | refine x_op rfl (x_val (r_add rfl rfl ⟨by omega, by omega⟩) rfl ?_)
    | refine x_op rfl (x_val (r_sub rfl rfl ⟨by omega, by omega⟩) rfl ?_)
    | refine x_op rfl (x_val (r_build (by assumption) (by assumption) rfl rfl) rfl ?_)
    | refine x_op rfl (x_val (r_nilCheck rfl) rfl ?_)
    | refine x_op rfl (x_val (r_lss (r := true) rfl rfl (decide_eq_true (by omega))) rfl ?_)
    | refine x_op rfl (x_val (r_lss (r := false) rfl rfl (decide_eq_false (by omega))) rfl ?_)
    | refine x_op rfl (x_val (r_leq (r := true) rfl rfl (decide_eq_true (by omega))) rfl ?_)
    | refine x_op rfl (x_val (r_leq (r := false) rfl rfl (decide_eq_false (by omega))) rfl ?_)
    | refine x_op rfl (x_val (r_gtr (r := true) rfl rfl (decide_eq_true (by omega))) rfl ?_)
    | refine x_op rfl (x_val (r_gtr (r := false) rfl rfl (decide_eq_false (by omega))) rfl ?_)
    | refine x_op rfl (x_val (r_geq (r := true) rfl rfl (decide_eq_true (by omega))) rfl ?_)
    | refine x_op rfl (x_val (r_geq (r := false) rfl rfl (decide_eq_false (by omega))) rfl ?_)
    | refine x_op rfl (x_val (r_eql (r := true) rfl rfl (decide_eq_true (by omega))) rfl ?_)
    | refine x_op rfl (x_val (r_eql (r := false) rfl rfl (decide_eq_false (by omega))) rfl ?_)
    | refine x_op rfl (x_val (r_neq (r := true) rfl rfl (decide_eq_true (by omega))) rfl ?_)
    | refine x_op rfl (x_val (r_neq (r := false) rfl rfl (decide_eq_false (by omega))) rfl ?_)
    | refine x_op rfl (x_val (by first | exact r_ownN (i := 0) (by assumption) rfl rfl rfl | exact r_ownN (i := 1) (by assumption) rfl rfl rfl | exact r_ownN (i := 2) (by assumption) rfl rfl rfl | exact r_ownN (i := 3) (by assumption) rfl rfl rfl | exact r_ownN (i := 4) (by assumption) rfl rfl rfl | exact r_ownN (i := 5) (by assumption) rfl rfl rfl) rfl ?_)
    | refine x_op rfl (s_store (i := 0) (by assumption) rfl rfl rfl rfl rfl rfl ?_)
    | refine x_op rfl (s_store (i := 1) (by assumption) rfl rfl rfl rfl rfl rfl ?_)
    | refine x_op rfl (s_store (i := 2) (by assumption) rfl rfl rfl rfl rfl rfl ?_)
    | refine x_op rfl (s_store (i := 3) (by assumption) rfl rfl rfl rfl rfl rfl ?_)
    | refine x_op rfl (s_store (i := 4) (by assumption) rfl rfl rfl rfl rfl rfl ?_)
    | refine x_op rfl (s_store (i := 5) (by assumption) rfl rfl rfl rfl rfl rfl ?_)
    | refine x_op rfl (s_box rfl rfl fun b hb => ?_) | refine x_op rfl (s_alloc (by assumption) rfl fun b hb => ?_))
    refine x_textS [bl b11 36 #[.string p.1, .string p.2], bl b10 26 #[.bool true, .int .i64 first, .slice A1 i c1], bl b0 26 #[.bool true, .int .i64 first, .slice (some ad) n c]] (by kernel_rfl) (fun _ h => h.pick_ [0, 1, 5] (by decide)) ?_
    refine x_tk rfl (r_ownN (i := 1) (cs := [.bool true, .int .i64 first, .slice A1 i c1]) z26 rfl rfl rfl) rfl (fun _ h => h.pick_ [0, 1, 5] (by decide)) ?_
    refine x_tk rfl (r_fieldAddr q36_0 rfl) rfl (fun _ h => h.pick_ [0, 1, 5] (by decide)) ?_
    refine x_tk rfl (r_own_add (i := 0) z9 rfl rfl rfl) rfl (fun _ h => h.pick_ [0, 1, 5] (by decide)) ?_
    refine x_tk rfl (r_ownN (i := 0) (cs := [.string p.1, .string p.2]) z36 rfl rfl rfl) rfl (fun _ h => h.pick_ [0, 1, 5] (by decide)) ?_
    refine x_tany ?_
    refine x_take 5 rfl (by kernel_rfl) rfl (r_fieldAddr q26_2 rfl) rfl (fun _ h => h.pick_ [0, 1, 5] (by decide)) ?_
    refine x_take 6 rfl (by kernel_rfl) rfl (r_own_add (i := 2) z22 rfl rfl rfl) rfl (fun _ h => h.pick_ [0, 1, 5] (by decide)) ?_
    refine x_take 7 rfl (by kernel_rfl) rfl (r_move rfl) rfl (fun _ h => h.pick_ [0, 1, 5] (by decide)) ?_
    refine x_take 8 rfl (by kernel_rfl) rfl (r_add rfl rfl ⟨by omega, by omega⟩) rfl (fun _ h => h.pick_ [0, 1, 5] (by decide)) ?_
    refine x_take 9 rfl (by kernel_rfl) rfl (r_slice_lo (i := (i : Int) + 1) u22 i36 rfl rfl ⟨by omega, by omega⟩ hnc) rfl (fun _ h => h.pick_ [0, 1, 5] (by decide)) ?_
    refine x_all [4] (by kernel_rfl) ⟨x_do rfl rfl (s_call Ty.c15 rfl rfl (fun w hw => child_ p.1 p.2 w hp4) (fun wq v wq1 hw h => ?_)), trivial⟩
    obtain ⟨rfl, hO⟩ := h
    refine ⟨_, hw.call0 hO, x_and (fun _ h => h.pick_ [0, 1, 5] (by decide)) ?_⟩
    refine x_all [10] (by kernel_rfl) ⟨x_do rfl rfl (s_call Ty.c14 rfl rfl (fun w hw => Clone_ _ (n - (i + 1)) (c - (i + 1)) (ps.drop (i + 1)) w (hrt hw) (by omega)) (fun wq v wq1 hw h => ?_)), trivial⟩
    obtain ⟨A2, c2, rfl, hok2, hO⟩ := h
    refine ⟨_, hw.call0 hO, x_and (fun _ h => h.pick_ [1, 2, 6] (by decide)) ?_⟩
    refine x_take 11 rfl (by kernel_rfl) rfl (r_build i26 p26 rfl rfl) rfl (fun _ h => h.pick_ [1, 2, 6] (by decide)) ?_
    refine x_all [12] (by kernel_rfl) ⟨x_do rfl rfl (s_store (i := 5) z26 rfl rfl rfl rfl rfl rfl (x_and (fun _ h => h.pick_ [1, 2, 6] (by decide)) ?_)), trivial⟩
    refine x_take 13 rfl (by kernel_rfl) rfl (r_assign rfl) rfl (fun _ h => h.pick_ [1, 2, 6] (by decide)) ?_
    refine x_all [14] (by kernel_rfl) ⟨x_do rfl rfl (s_store (i := 4) z26 rfl rfl rfl rfl rfl rfl (x_and (fun _ h => h.pick_ [1, 2, 6] (by decide)) ?_)), trivial⟩
    refine x_take 15 rfl (by kernel_rfl) rfl (r_assign rfl) rfl (fun _ h => h.pick_ [1, 2, 6] (by decide)) ?_
    refine x_done (by kernel_rfl) ?_
    repeat (first
    | refine x_seq ?_ | refine x_region ?_ | refine x_nil ?_ | refine x_block ?_ | refine x_skip ?_ | refine x_exit rfl ?_ | refine x_true rfl ?_ | refine x_false rfl ?_ | refine x_ret ?_ | refine x_tend ?_
    | refine x_off rfl rfl ?_ | refine x_off0 rfl ?_
    | refine x_op rfl (x_val (r_move rfl) rfl ?_)
    | refine x_op rfl (x_val (r_assign rfl) rfl ?_)
    | refine x_op rfl (x_val (r_extract rfl rfl) rfl ?_)
    | refine x_op rfl (x_val (r_pick_t rfl rfl) rfl ?_)
    | refine x_op rfl (x_val (r_pick_f rfl rfl) rfl ?_)
    | refine x_op rfl (x_val (r_fieldAddr (by assumption) rfl) rfl ?_)
    | refine x_op rfl (x_val (by first | exact r_own_add (i := 0) (by assumption) rfl rfl rfl | exact r_own_add (i := 1) (by assumption) rfl rfl rfl | exact r_own_add (i := 2) (by assumption) rfl rfl rfl | exact r_own_add (i := 3) (by assumption) rfl rfl rfl | exact r_own_add (i := 4) (by assumption) rfl rfl rfl | exact r_own_add (i := 5) (by assumption) rfl rfl rfl | exact r_own (i := 0) (by assumption) rfl rfl rfl | exact r_own (i := 1) (by assumption) rfl rfl rfl | exact r_own (i := 2) (by assumption) rfl rfl rfl | exact r_own (i := 3) (by assumption) rfl rfl rfl | exact r_own (i := 4) (by assumption) rfl rfl rfl | exact r_own (i := 5) (by assumption) rfl rfl rfl) rfl ?_)
    | refine x_op rfl (x_val (r_len_string (by assumption) rfl) rfl ?_)
    | refine x_op rfl (x_val (r_len_slice (by assumption) rfl) rfl ?_)
    | refine x_op rfl (x_val (r_cap_slice (by assumption) rfl) rfl ?_)
    | refine x_op rfl (x_val (r_not rfl rfl) rfl ?_)
    | refine x_op rfl (x_val (r_add rfl rfl ⟨by omega, by omega⟩) rfl ?_)
    | refine x_op rfl (x_val (r_sub rfl rfl ⟨by omega, by omega⟩) rfl ?_)
    | refine x_op rfl (x_val (r_build (by assumption) (by assumption) rfl rfl) rfl ?_)
    | refine x_op rfl (x_val (r_nilCheck rfl) rfl ?_)
    | refine x_op rfl (x_val (r_lss (r := true) rfl rfl (decide_eq_true (by omega))) rfl ?_)
    | refine x_op rfl (x_val (r_lss (r := false) rfl rfl (decide_eq_false (by omega))) rfl ?_)
    | refine x_op rfl (x_val (r_leq (r := true) rfl rfl (decide_eq_true (by omega))) rfl ?_)
    | refine x_op rfl (x_val (r_leq (r := false) rfl rfl (decide_eq_false (by omega))) rfl ?_)
    | refine x_op rfl (x_val (r_gtr (r := true) rfl rfl (decide_eq_true (by omega))) rfl ?_)
    | refine x_op rfl (x_val (r_gtr (r := false) rfl rfl (decide_eq_false (by omega))) rfl ?_)
    | refine x_op rfl (x_val (r_geq (r := true) rfl rfl (decide_eq_true (by omega))) rfl ?_)
    | refine x_op rfl (x_val (r_geq (r := false) rfl rfl (decide_eq_false (by omega))) rfl ?_)
    | refine x_op rfl (x_val (r_eql (r := true) rfl rfl (decide_eq_true (by omega))) rfl ?_)
    | refine x_op rfl (x_val (r_eql (r := false) rfl rfl (decide_eq_false (by omega))) rfl ?_)
    | refine x_op rfl (x_val (r_neq (r := true) rfl rfl (decide_eq_true (by omega))) rfl ?_)
    | refine x_op rfl (x_val (r_neq (r := false) rfl rfl (decide_eq_false (by omega))) rfl ?_)
    | refine x_op rfl (x_val (by first | exact r_ownN (i := 0) (by assumption) rfl rfl rfl | exact r_ownN (i := 1) (by assumption) rfl rfl rfl | exact r_ownN (i := 2) (by assumption) rfl rfl rfl | exact r_ownN (i := 3) (by assumption) rfl rfl rfl | exact r_ownN (i := 4) (by assumption) rfl rfl rfl | exact r_ownN (i := 5) (by assumption) rfl rfl rfl) rfl ?_)
    | refine x_op rfl (s_store (i := 0) (by assumption) rfl rfl rfl rfl rfl rfl ?_)
    | refine x_op rfl (s_store (i := 1) (by assumption) rfl rfl rfl rfl rfl rfl ?_)
    | refine x_op rfl (s_store (i := 2) (by assumption) rfl rfl rfl rfl rfl rfl ?_)
    | refine x_op rfl (s_store (i := 3) (by assumption) rfl rfl rfl rfl rfl rfl ?_)
    | refine x_op rfl (s_store (i := 4) (by assumption) rfl rfl rfl rfl rfl rfl ?_)
    | refine x_op rfl (s_store (i := 5) (by assumption) rfl rfl rfl rfl rfl rfl ?_)
    | refine x_op rfl (s_box rfl rfl fun b hb => ?_) | refine x_op rfl (s_alloc (by assumption) rfl fun b hb => ?_))
    exact x_rets (rs := [_, _]) (vs := [_, _]) rfl ⟨res_own (i := 5) (cs := [.bool true, .int .i64 first, .slice A1 i c1]) rfl rfl z26 rfl, rfl, res_own (i := 4) (cs := [.bool true, .int .i64 (num4 p.2), .slice A2 (n - (i + 1)) c2]) rfl rfl z26 rfl, rfl, trivial⟩ fun w1 hO => ⟨_, rfl, A1, c1, A2, c2, by simp [Nd.val, hlt, hld], hok1', by rw [hld]; exact hok2, hO.pick_ [3, 0] (by decide)⟩
end Go.Proofs.Ytlpoepmipbegaaa.Lf
