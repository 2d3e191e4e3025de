/- The law's own small functions. -/
import Derived.Test.YtlpoepmipbegaaaLe
set_option linter.unusedVariables false
set_option linter.unusedSimpArgs false
namespace Go.Proofs.Ytlpoepmipbegaaa.Lf
open Go Go.RowKit Go.Proofs.Ytlpoepmipbegaaa.En Go.Proofs.Ytlpoepmipbegaaa.Lm
set_option maxHeartbeats 8000000 in
set_option maxRecDepth 20000 in
theorem from_ (br : Bool) (first : Int) (A : Option Addr) (n c : Nat) (w : World) :
    Calls Try.prog 9 #[.agg #[.bool br, .int .i64 first, .slice A n c]] w fun en w1 => ∃ r, en = .returned r ∧ (r = .agg #[.bool br, .int .i64 first, .slice A n c] ∧ Own w [] [] w1) := by
  refine fn_enter (args := [_]) (F := []) Try.func9 rfl rfl rfl ?_
  have u26 := Try.underlying26; have z26 := Ty.z26; have i26 := Ty.i26; have p26 := Ty.p26; have q26_0 := Ty.q26_0; have q26_1 := Ty.q26_1; have q26_2 := Ty.q26_2; have u24 := Try.underlying24; have z24 := Ty.z24; have i24 := Ty.i24; have p24 := Ty.p24; have q24_0 := Ty.q24_0; have q24_1 := Ty.q24_1; have q24_2 := Ty.q24_2; have u22 := Try.underlying22; have z22 := Ty.z22; have i22 := Ty.i22; have u3 := Try.underlying3; have z3 := Ty.z3; have i3 := Ty.i3; have u4 := Try.underlying4; have z4 := Ty.z4; have i4 := Ty.i4
  repeat (first
    | refine x_seq ?_ | refine x_region ?_ | refine x_nil ?_ | refine x_block ?_ | refine x_skip ?_ | refine x_exit rfl ?_ | refine x_true rfl ?_ | refine x_false rfl ?_ | refine x_ret ?_ | refine x_tend ?_
    | refine x_off rfl rfl ?_ | refine x_off0 rfl ?_
    | refine x_op rfl (x_val (r_move rfl) rfl ?_)
    | refine x_op rfl (x_val (r_assign rfl) rfl ?_)
    | refine x_op rfl (x_val (r_extract rfl rfl) rfl ?_)
    | refine x_op rfl (x_val (r_pick_t rfl rfl) rfl ?_)
    | refine x_op rfl (x_val (r_pick_f rfl rfl) rfl ?_)
    | refine x_op rfl (x_val (r_fieldAddr (by assumption) rfl) rfl ?_)
    | refine x_op rfl (x_val (by first | exact r_own_add (i := 0) (by assumption) rfl rfl rfl | exact r_own_add (i := 1) (by assumption) rfl rfl rfl | exact r_own_add (i := 2) (by assumption) rfl rfl rfl | exact r_own_add (i := 3) (by assumption) rfl rfl rfl | exact r_own_add (i := 4) (by assumption) rfl rfl rfl | exact r_own_add (i := 5) (by assumption) rfl rfl rfl | exact r_own (i := 0) (by assumption) rfl rfl rfl | exact r_own (i := 1) (by assumption) rfl rfl rfl | exact r_own (i := 2) (by assumption) rfl rfl rfl | exact r_own (i := 3) (by assumption) rfl rfl rfl | exact r_own (i := 4) (by assumption) rfl rfl rfl | exact r_own (i := 5) (by assumption) rfl rfl rfl) rfl ?_)
    | refine x_op rfl (x_val (r_len_string (by assumption) rfl) rfl ?_)
    | refine x_op rfl (x_val (r_len_slice (by assumption) rfl) rfl ?_)
    | refine x_op rfl (x_val (r_cap_slice (by assumption) rfl) rfl ?_)
    | refine x_op rfl (x_val (r_not rfl rfl) rfl ?_)
    | refine x_op rfl (x_val (r_add rfl rfl ⟨by omega, by omega⟩) rfl ?_)
    | refine x_op rfl (x_val (r_sub rfl rfl ⟨by omega, by omega⟩) rfl ?_)
    | refine x_op rfl (x_val (r_build (by assumption) (by assumption) rfl rfl) rfl ?_)
    | refine x_op rfl (x_val (r_nilCheck rfl) rfl ?_)
    | refine x_op rfl (x_val (r_lss (r := true) rfl rfl (decide_eq_true (by omega))) rfl ?_)
    | refine x_op rfl (x_val (r_lss (r := false) rfl rfl (decide_eq_false (by omega))) rfl ?_)
    | refine x_op rfl (x_val (r_leq (r := true) rfl rfl (decide_eq_true (by omega))) rfl ?_)
    | refine x_op rfl (x_val (r_leq (r := false) rfl rfl (decide_eq_false (by omega))) rfl ?_)
    | refine x_op rfl (x_val (r_gtr (r := true) rfl rfl (decide_eq_true (by omega))) rfl ?_)
    | refine x_op rfl (x_val (r_gtr (r := false) rfl rfl (decide_eq_false (by omega))) rfl ?_)
    | refine x_op rfl (x_val (r_geq (r := true) rfl rfl (decide_eq_true (by omega))) rfl ?_)
    | refine x_op rfl (x_val (r_geq (r := false) rfl rfl (decide_eq_false (by omega))) rfl ?_)
    | refine x_op rfl (x_val (r_eql (r := true) rfl rfl (decide_eq_true (by omega))) rfl ?_)
    | refine x_op rfl (x_val (r_eql (r := false) rfl rfl (decide_eq_false (by omega))) rfl ?_)
    | refine x_op rfl (x_val (r_neq (r := true) rfl rfl (decide_eq_true (by omega))) rfl ?_)
    | refine x_op rfl (x_val (r_neq (r := false) rfl rfl (decide_eq_false (by omega))) rfl ?_)
    | refine x_op rfl (x_val (by first | exact r_ownN (i := 0) (by assumption) rfl rfl rfl | exact r_ownN (i := 1) (by assumption) rfl rfl rfl | exact r_ownN (i := 2) (by assumption) rfl rfl rfl | exact r_ownN (i := 3) (by assumption) rfl rfl rfl | exact r_ownN (i := 4) (by assumption) rfl rfl rfl | exact r_ownN (i := 5) (by assumption) rfl rfl rfl) rfl ?_)
    | refine x_op rfl (s_store (i := 0) (by assumption) rfl rfl rfl rfl rfl rfl ?_)
    | refine x_op rfl (s_store (i := 1) (by assumption) rfl rfl rfl rfl rfl rfl ?_)
    | refine x_op rfl (s_store (i := 2) (by assumption) rfl rfl rfl rfl rfl rfl ?_)
    | refine x_op rfl (s_store (i := 3) (by assumption) rfl rfl rfl rfl rfl rfl ?_)
    | refine x_op rfl (s_store (i := 4) (by assumption) rfl rfl rfl rfl rfl rfl ?_)
    | refine x_op rfl (s_store (i := 5) (by assumption) rfl rfl rfl rfl rfl rfl ?_)
    | refine x_op rfl (s_box rfl rfl fun b hb => ?_) | refine x_op rfl (s_alloc (by assumption) rfl fun b hb => ?_))
  exact x_ret1 rfl (res_own (i := 0) (cs := [.bool br, .int .i64 first, .slice A n c]) rfl rfl z24 rfl) fun w1 hO => ⟨_, rfl, rfl, hO.none_⟩
def zeros2 : List Value := [.string emptyB, .string emptyB, .string emptyB, .string emptyB]
theorem made_pairs (k : Nat) : (madeCells (Value.agg #[.string emptyB, .string emptyB]).cells (k * 2)).toList = List.replicate (k * 2) (.string emptyB) := by
  apply List.ext_getElem?
  intro i
  by_cases h : i < k * 2
  · have h2 : i % 2 = 0 ∨ i % 2 = 1 := by omega
    rcases h2 with h2 | h2 <;> simp [madeCells, h, Value.cells, h2]
  · simp [madeCells, h]
theorem put_pairs (ps : List Pr) (n : Nat) (h : ps.length = n) : put_ (List.replicate ((n + 2) * 2) (Value.string emptyB)).toArray (0 * 2) (fl ps) = (fl ps ++ zeros2).toArray := by
  have h1 := fl_length ps
  simp only [put_, Nat.zero_mul, List.take_zero, List.nil_append, Nat.zero_add, List.drop_replicate]
  rw [h1, h, show (n + 2) * 2 - n * 2 = 4 by omega]
  rfl
set_option maxHeartbeats 8000000 in
set_option maxRecDepth 20000 in
theorem to_ (br : Bool) (first : Int) (A : Option Addr) (n c : Nat) (ps : List Pr) (w : World) (hr : Rd w A n 2 (fl ps)) (hn : n ≤ 4398046511104) :
    Calls Try.prog 5 #[.agg #[.bool br, .int .i64 first, .slice A n c]] w fun en w1 => ∃ r, en = .returned r ∧ ∃ b, r = .agg #[.bool br, .int .i64 first, .slice (some ⟨b, 0, none⟩) n (n + 2)] ∧ Own w [] [bl b 36 (fl ps ++ zeros2).toArray] w1 := by
  refine fn_enter (args := [_]) (F := []) Try.func5 rfl rfl rfl ?_
  have u26 := Try.underlying26; have z26 := Ty.z26; have i26 := Ty.i26; have p26 := Ty.p26; have q26_0 := Ty.q26_0; have q26_1 := Ty.q26_1; have q26_2 := Ty.q26_2; have u24 := Try.underlying24; have z24 := Ty.z24; have i24 := Ty.i24; have p24 := Ty.p24; have q24_0 := Ty.q24_0; have q24_1 := Ty.q24_1; have q24_2 := Ty.q24_2; have u22 := Try.underlying22; have z22 := Ty.z22; have i22 := Ty.i22; have u36 := Try.underlying36; have z36 := Ty.z36; have i36 := Ty.i36; have p36 := Ty.p36; have q36_0 := Ty.q36_0; have q36_1 := Ty.q36_1; have u3 := Try.underlying3; have z3 := Ty.z3; have i3 := Ty.i3; have u4 := Try.underlying4; have z4 := Ty.z4; have i4 := Ty.i4
  refine x_seq ?_
  repeat (first
    | refine x_region ?_ | refine x_nil ?_ | refine x_tend ?_
    | refine x_off rfl rfl ?_ | refine x_off0 rfl ?_
    | refine x_op rfl (x_val (r_move rfl) rfl ?_)
    | refine x_op rfl (x_val (r_assign rfl) rfl ?_)
    | refine x_op rfl (x_val (r_extract rfl rfl) rfl ?_)
    | refine x_op rfl (x_val (r_pick_t rfl rfl) rfl ?_)
    | refine x_op rfl (x_val (r_pick_f rfl rfl) rfl ?_)
    | refine x_op rfl (x_val (r_fieldAddr (by assumption) rfl) rfl ?_)
    | refine x_op rfl (x_val (by first | exact r_own_add (i := 0) (by assumption) rfl rfl rfl | exact r_own_add (i := 1) (by assumption) rfl rfl rfl | exact r_own_add (i := 2) (by assumption) rfl rfl rfl | exact r_own_add (i := 3) (by assumption) rfl rfl rfl | exact r_own_add (i := 4) (by assumption) rfl rfl rfl | exact r_own_add (i := 5) (by assumption) rfl rfl rfl | exact r_own (i := 0) (by assumption) rfl rfl rfl | exact r_own (i := 1) (by assumption) rfl rfl rfl | exact r_own (i := 2) (by assumption) rfl rfl rfl | exact r_own (i := 3) (by assumption) rfl rfl rfl | exact r_own (i := 4) (by assumption) rfl rfl rfl | exact r_own (i := 5) (by assumption) rfl rfl rfl) rfl ?_)
    | refine x_op rfl (x_val (r_len_string (by assumption) rfl) rfl ?_)
    | refine x_op rfl (x_val (r_len_slice (by assumption) rfl) rfl ?_)
    | refine x_op rfl (x_val (r_cap_slice (by assumption) rfl) rfl ?_)
    | refine x_op rfl (x_val (r_not rfl rfl) rfl ?_)
    | refine x_op rfl (x_val (r_add rfl rfl ⟨by omega, by omega⟩) rfl ?_)
    | refine x_op rfl (x_val (r_sub rfl rfl ⟨by omega, by omega⟩) rfl ?_)
    | refine x_op rfl (x_val (r_build (by assumption) (by assumption) rfl rfl) rfl ?_)
    | refine x_op rfl (x_val (r_nilCheck rfl) rfl ?_)
    | refine x_op rfl (x_val (r_lss (r := true) rfl rfl (decide_eq_true (by omega))) rfl ?_)
    | refine x_op rfl (x_val (r_lss (r := false) rfl rfl (decide_eq_false (by omega))) rfl ?_)
    | refine x_op rfl (x_val (r_leq (r := true) rfl rfl (decide_eq_true (by omega))) rfl ?_)
    | refine x_op rfl (x_val (r_leq (r := false) rfl rfl (decide_eq_false (by omega))) rfl ?_)
    | refine x_op rfl (x_val (r_gtr (r := true) rfl rfl (decide_eq_true (by omega))) rfl ?_)
    | refine x_op rfl (x_val (r_gtr (r := false) rfl rfl (decide_eq_false (by omega))) rfl ?_)
    | refine x_op rfl (x_val (r_geq (r := true) rfl rfl (decide_eq_true (by omega))) rfl ?_)
    | refine x_op rfl (x_val (r_geq (r := false) rfl rfl (decide_eq_false (by omega))) rfl ?_)
    | refine x_op rfl (x_val (r_eql (r := true) rfl rfl (decide_eq_true (by omega))) rfl ?_)
    | refine x_op rfl (x_val (r_eql (r := false) rfl rfl (decide_eq_false (by omega))) rfl ?_)
    | refine x_op rfl (x_val (r_neq (r := true) rfl rfl (decide_eq_true (by omega))) rfl ?_)
    | refine x_op rfl (x_val (r_neq (r := false) rfl rfl (decide_eq_false (by omega))) rfl ?_)
    | refine x_op rfl (x_val (by first | exact r_ownN (i := 0) (by assumption) rfl rfl rfl | exact r_ownN (i := 1) (by assumption) rfl rfl rfl | exact r_ownN (i := 2) (by assumption) rfl rfl rfl | exact r_ownN (i := 3) (by assumption) rfl rfl rfl | exact r_ownN (i := 4) (by assumption) rfl rfl rfl | exact r_ownN (i := 5) (by assumption) rfl rfl rfl) rfl ?_)
    | refine x_op rfl (s_store (i := 0) (by assumption) rfl rfl rfl rfl rfl rfl ?_)
    | refine x_op rfl (s_store (i := 1) (by assumption) rfl rfl rfl rfl rfl rfl ?_)
    | refine x_op rfl (s_store (i := 2) (by assumption) rfl rfl rfl rfl rfl rfl ?_)
    | refine x_op rfl (s_store (i := 3) (by assumption) rfl rfl rfl rfl rfl rfl ?_)
    | refine x_op rfl (s_store (i := 4) (by assumption) rfl rfl rfl rfl rfl rfl ?_)
    | refine x_op rfl (s_store (i := 5) (by assumption) rfl rfl rfl rfl rfl rfl ?_)
    | refine x_op rfl (s_box rfl rfl fun b hb => ?_) | refine x_op rfl (s_alloc (by assumption) rfl fun b hb => ?_))
  rename_i b1 _
  refine x_seq ?_
  refine x_textS [bl b1 24 #[.bool br, .int .i64 first, .slice A n c]] (by kernel_rfl) (fun _ h => h.pick_ [1] (by decide)) ?_
  refine x_tk rfl (r_fieldAddr q24_0 rfl) rfl (fun _ h => h.pick_ [1] (by decide)) ?_
  refine x_tk rfl (r_own_add (i := 0) z4 rfl rfl rfl) rfl (fun _ h => h.pick_ [1] (by decide)) ?_
  refine x_tk rfl (r_fieldAddr q24_1 rfl) rfl (fun _ h => h.pick_ [1] (by decide)) ?_
  refine x_tk rfl (r_own_add (i := 0) z3 rfl rfl rfl) rfl (fun _ h => h.pick_ [1] (by decide)) ?_
  refine x_tk rfl (r_fieldAddr q24_2 rfl) rfl (fun _ h => h.pick_ [1] (by decide)) ?_
  refine x_tk rfl (r_own_add (i := 0) z22 rfl rfl rfl) rfl (fun _ h => h.pick_ [1] (by decide)) ?_
  refine x_tk rfl (r_len_slice u22 rfl) rfl (fun _ h => h.pick_ [1] (by decide)) ?_
  refine x_tk rfl (r_add rfl rfl ⟨by omega, by omega⟩) rfl (fun _ h => h.pick_ [1] (by decide)) ?_
  refine x_tany ?_
  refine x_take 9 rfl (by kernel_rfl) rfl (r_fieldAddr q24_2 rfl) rfl (fun _ h => h.pick_ [1] (by decide)) ?_
  refine x_take 10 rfl (by kernel_rfl) rfl (r_own_add (i := 0) z22 rfl rfl rfl) rfl (fun _ h => h.pick_ [1] (by decide)) ?_
  refine x_all [8] (by kernel_rfl) ⟨x_do rfl rfl (s_makeSlice (l := 0) (c := (n : Int) + 2) u22 i36 rfl rfl rfl ⟨by omega, by omega⟩ ⟨by omega, by omega⟩ fun bm hbm => x_and (fun _ h => h.pick_ [2] (by decide)) ?_), trivial⟩
  have hc2 : ((n : Int) + 2).toNat = n + 2 := by omega
  rw [hc2]
  refine x_heap (L' := [bl bm 36 (List.replicate ((n + 2) * 2) (Value.string emptyB)).toArray, bl b 26 #[.bool false, .int .i64 0, .slice none 0 0], bl b1 24 #[.bool br, .int .i64 first, .slice A n c]]) (fun w hO => by rw [← made_pairs]; exact hO) ?_
  refine x_all [11] (by kernel_rfl) ⟨x_do rfl rfl (s_append_room (i := 0) (m := 0) (cap := n + 2) (news := fl ps) u22 i36 rfl rfl rfl rfl (by simp) (fun w hO => hO.rd0 hr) (fl_one ps) (by omega) (x_and (fun _ h => h.pick_ [2] (by decide)) ?_)), trivial⟩
  rw [put_pairs ps n (rd_len hr), Nat.zero_add n]
  refine x_take 12 rfl (by kernel_rfl) rfl (r_build i26 p26 rfl rfl) rfl (fun _ h => h.pick_ [2] (by decide)) ?_
  refine x_all [13] (by kernel_rfl) ⟨x_do rfl rfl (s_store (i := 1) z26 rfl rfl rfl rfl rfl rfl (x_new [] (by kernel_rfl) ?_)), trivial⟩
  refine x_done (by kernel_rfl) ?_
  repeat (first
    | refine x_seq ?_ | refine x_region ?_ | refine x_nil ?_ | refine x_block ?_ | refine x_skip ?_ | refine x_exit rfl ?_ | refine x_true rfl ?_ | refine x_false rfl ?_ | refine x_ret ?_ | refine x_tend ?_
    | refine x_off rfl rfl ?_ | refine x_off0 rfl ?_
    | refine x_op rfl (x_val (r_move rfl) rfl ?_)
    | refine x_op rfl (x_val (r_assign rfl) rfl ?_)
    | refine x_op rfl (x_val (r_extract rfl rfl) rfl ?_)
    | refine x_op rfl (x_val (r_pick_t rfl rfl) rfl ?_)
    | refine x_op rfl (x_val (r_pick_f rfl rfl) rfl ?_)
    | refine x_op rfl (x_val (r_fieldAddr (by assumption) rfl) rfl ?_)
    | refine x_op rfl (x_val (by first | exact r_own_add (i := 0) (by assumption) rfl rfl rfl | exact r_own_add (i := 1) (by assumption) rfl rfl rfl | exact r_own_add (i := 2) (by assumption) rfl rfl rfl | exact r_own_add (i := 3) (by assumption) rfl rfl rfl | exact r_own_add (i := 4) (by assumption) rfl rfl rfl | exact r_own_add (i := 5) (by assumption) rfl rfl rfl | exact r_own (i := 0) (by assumption) rfl rfl rfl | exact r_own (i := 1) (by assumption) rfl rfl rfl | exact r_own (i := 2) (by assumption) rfl rfl rfl | exact r_own (i := 3) (by assumption) rfl rfl rfl | exact r_own (i := 4) (by assumption) rfl rfl rfl | exact r_own (i := 5) (by assumption) rfl rfl rfl) rfl ?_)
    | refine x_op rfl (x_val (r_len_string (by assumption) rfl) rfl ?_)
    | refine x_op rfl (x_val (r_len_slice (by assumption) rfl) rfl ?_)
    | refine x_op rfl (x_val (r_cap_slice (by assumption) rfl) rfl ?_)
    | refine x_op rfl (x_val (r_not rfl rfl) rfl ?_)
    | refine x_op rfl (x_val (r_add rfl rfl ⟨by omega, by omega⟩) rfl ?_)
    | refine x_op rfl (x_val (r_sub rfl rfl ⟨by omega, by omega⟩) rfl ?_)
    | refine x_op rfl (x_val (r_build (by assumption) (by assumption) rfl rfl) rfl ?_)
    | refine x_op rfl (x_val (r_nilCheck rfl) rfl ?_)
    | refine x_op rfl (x_val (r_lss (r := true) rfl rfl (decide_eq_true (by omega))) rfl ?_)
    | refine x_op rfl (x_val (r_lss (r := false) rfl rfl (decide_eq_false (by omega))) rfl ?_)
    | refine x_op rfl (x_val (r_leq (r := true) rfl rfl (decide_eq_true (by omega))) rfl ?_)
    | refine x_op rfl (x_val (r_leq (r := false) rfl rfl (decide_eq_false (by omega))) rfl ?_)
    | refine x_op rfl (x_val (r_gtr (r := true) rfl rfl (decide_eq_true (by omega))) rfl ?_)
    | refine x_op rfl (x_val (r_gtr (r := false) rfl rfl (decide_eq_false (by omega))) rfl ?_)
    | refine x_op rfl (x_val (r_geq (r := true) rfl rfl (decide_eq_true (by omega))) rfl ?_)
    | refine x_op rfl (x_val (r_geq (r := false) rfl rfl (decide_eq_false (by omega))) rfl ?_)
    | refine x_op rfl (x_val (r_eql (r := true) rfl rfl (decide_eq_true (by omega))) rfl ?_)
    | refine x_op rfl (x_val (r_eql (r := false) rfl rfl (decide_eq_false (by omega))) rfl ?_)
    | refine x_op rfl (x_val (r_neq (r := true) rfl rfl (decide_eq_true (by omega))) rfl ?_)
    | refine x_op rfl (x_val (r_neq (r := false) rfl rfl (decide_eq_false (by omega))) rfl ?_)
    | refine x_op rfl (x_val (by first | exact r_ownN (i := 0) (by assumption) rfl rfl rfl | exact r_ownN (i := 1) (by assumption) rfl rfl rfl | exact r_ownN (i := 2) (by assumption) rfl rfl rfl | exact r_ownN (i := 3) (by assumption) rfl rfl rfl | exact r_ownN (i := 4) (by assumption) rfl rfl rfl | exact r_ownN (i := 5) (by assumption) rfl rfl rfl) rfl ?_)
    | refine x_op rfl (s_store (i := 0) (by assumption) rfl rfl rfl rfl rfl rfl ?_)
    | refine x_op rfl (s_store (i := 1) (by assumption) rfl rfl rfl rfl rfl rfl ?_)
    | refine x_op rfl (s_store (i := 2) (by assumption) rfl rfl rfl rfl rfl rfl ?_)
    | refine x_op rfl (s_store (i := 3) (by assumption) rfl rfl rfl rfl rfl rfl ?_)
    | refine x_op rfl (s_store (i := 4) (by assumption) rfl rfl rfl rfl rfl rfl ?_)
    | refine x_op rfl (s_store (i := 5) (by assumption) rfl rfl rfl rfl rfl rfl ?_)
    | refine x_op rfl (s_box rfl rfl fun b hb => ?_) | refine x_op rfl (s_alloc (by assumption) rfl fun b hb => ?_))
  exact x_ret1 rfl (res_own (i := 1) (cs := [.bool br, .int .i64 first, .slice (some ⟨bm, 0, none⟩) n (n + 2)]) rfl rfl z26 rfl) fun w1 hO => ⟨_, rfl, bm, rfl, hO.pick_ [0] (by decide)⟩
theorem ba_beq (a : ByteArray) : (a == a) = true := by
  show (a.data == a.data) = true
  simp
theorem run_neq_pair_same (a b : ByteArray) (w : World) : (binOp .neq 36 (.agg #[.string a, .string b]) (.agg #[.string a, .string b])).run Try.prog w = .ok (.bool false) w := by
  have h : ∀ d : Nat, (Op.equalIn (d + 2) 36 (.agg #[.string a, .string b]) (.agg #[.string a, .string b])).run Try.prog w = .ok true w := fun d => by
    simp [Op.equalIn, run_underlying Try.underlying36, run_underlying Try.underlying9, Op.eqFields, part, sizeOf, typeInfo, ba_beq]
  simp only [binOp]
  simp [Op.equal, Op.maxDepth, h 9998]
theorem r_neq_pair {n : Nat} {S : World → Prop} {e : Env} {dst : Option Tmp} {ty : TypeId} {pos : String} {af : Array Edge} {g : Option (Nat × Bool)} {x y : Operand} {yt : TypeId} {a b : ByteArray} (hx : ev e x = some (.agg #[.string a, .string b])) (hy : ev e y = some (.agg #[.string a, .string b])) :
    Rig Try.prog n S e ⟨dst, .binOp .neq 36 x y yt, ty, pos, af, g⟩ (.bool false) := Rig.mk_ fun ac w hs _ => by
  simp only [execOp, hs.ev_ hx, hs.ev_ hy]
  simp [go_sem, run_neq_pair_same]
set_option maxHeartbeats 8000000 in
set_option maxRecDepth 20000 in
theorem Same_ (br : Bool) (first : Int) (A A2 : Option Addr) (n c c2 : Nat) (ps : List Pr) (w : World) (hr : Rd w A n 2 (fl ps)) (hr2 : Rd w A2 n 2 (fl ps)) :
    Calls Try.prog 8 #[.agg #[.bool br, .int .i64 first, .slice A n c], .agg #[.bool br, .int .i64 first, .slice A2 n c2]] w fun en w1 => ∃ r, en = .returned r ∧ (r = .bool true ∧ Own w [] [] w1) := by
  refine fn_enter (args := [_, _]) (F := []) Try.func8 rfl rfl rfl ?_
  have u24 := Try.underlying24; have z24 := Ty.z24; have i24 := Ty.i24; have p24 := Ty.p24; have q24_0 := Ty.q24_0; have q24_1 := Ty.q24_1; have q24_2 := Ty.q24_2; have u22 := Try.underlying22; have z22 := Ty.z22; have i22 := Ty.i22; have u36 := Try.underlying36; have z36 := Ty.z36; have i36 := Ty.i36; have p36 := Ty.p36; have q36_0 := Ty.q36_0; have q36_1 := Ty.q36_1; have u3 := Try.underlying3; have z3 := Ty.z3; have i3 := Ty.i3; have u4 := Try.underlying4; have z4 := Ty.z4; have i4 := Ty.i4
  have hlen := rd_len hr
  have hnm : n ≤ 9223372036854775807 := by have := hr.2.1; simp only [maxLen] at this; omega
  repeat (first
    | refine x_seq ?_ | refine x_region ?_ | refine x_nil ?_ | refine x_block ?_ | refine x_skip ?_ | refine x_exit rfl ?_ | refine x_true rfl ?_ | refine x_false rfl ?_ | refine x_ret ?_ | refine x_tend ?_
    | refine x_off rfl rfl ?_ | refine x_off0 rfl ?_
    | refine x_op rfl (x_val (r_move rfl) rfl ?_)
    | refine x_op rfl (x_val (r_assign rfl) rfl ?_)
    | refine x_op rfl (x_val (r_extract rfl rfl) rfl ?_)
    | refine x_op rfl (x_val (r_pick_t rfl rfl) rfl ?_)
    | refine x_op rfl (x_val (r_pick_f rfl rfl) rfl ?_)
    | refine x_op rfl (x_val (r_fieldAddr (by assumption) rfl) rfl ?_)
    | refine x_op rfl (x_val (by first | exact r_own_add (i := 0) (by assumption) rfl rfl rfl | exact r_own_add (i := 1) (by assumption) rfl rfl rfl | exact r_own_add (i := 2) (by assumption) rfl rfl rfl | exact r_own_add (i := 3) (by assumption) rfl rfl rfl | exact r_own_add (i := 4) (by assumption) rfl rfl rfl | exact r_own_add (i := 5) (by assumption) rfl rfl rfl | exact r_own (i := 0) (by assumption) rfl rfl rfl | exact r_own (i := 1) (by assumption) rfl rfl rfl | exact r_own (i := 2) (by assumption) rfl rfl rfl | exact r_own (i := 3) (by assumption) rfl rfl rfl | exact r_own (i := 4) (by assumption) rfl rfl rfl | exact r_own (i := 5) (by assumption) rfl rfl rfl) rfl ?_)
    | refine x_op rfl (x_val (r_len_string (by assumption) rfl) rfl ?_)
    | refine x_op rfl (x_val (r_len_slice (by assumption) rfl) rfl ?_)
    | refine x_op rfl (x_val (r_cap_slice (by assumption) rfl) rfl ?_)
    | refine x_op rfl (x_val (r_not rfl rfl) rfl ?_)
    | refine x_op rfl (x_val (r_add rfl rfl ⟨by omega, by omega⟩) rfl ?_)
    | refine x_op rfl (x_val (r_sub rfl rfl ⟨by omega, by omega⟩) rfl ?_)
    | refine x_op rfl (x_val (r_build (by assumption) (by assumption) rfl rfl) rfl ?_)
    | refine x_op rfl (x_val (r_nilCheck rfl) rfl ?_)
    | refine x_op rfl (x_val (r_lss (r := true) rfl rfl (decide_eq_true (by omega))) rfl ?_)
    | refine x_op rfl (x_val (r_lss (r := false) rfl rfl (decide_eq_false (by omega))) rfl ?_)
    | refine x_op rfl (x_val (r_leq (r := true) rfl rfl (decide_eq_true (by omega))) rfl ?_)
    | refine x_op rfl (x_val (r_leq (r := false) rfl rfl (decide_eq_false (by omega))) rfl ?_)
    | refine x_op rfl (x_val (r_gtr (r := true) rfl rfl (decide_eq_true (by omega))) rfl ?_)
    | refine x_op rfl (x_val (r_gtr (r := false) rfl rfl (decide_eq_false (by omega))) rfl ?_)
    | refine x_op rfl (x_val (r_geq (r := true) rfl rfl (decide_eq_true (by omega))) rfl ?_)
    | refine x_op rfl (x_val (r_geq (r := false) rfl rfl (decide_eq_false (by omega))) rfl ?_)
    | refine x_op rfl (x_val (r_eql (r := true) rfl rfl (decide_eq_true (by omega))) rfl ?_)
    | refine x_op rfl (x_val (r_eql (r := false) rfl rfl (decide_eq_false (by omega))) rfl ?_)
    | refine x_op rfl (x_val (r_neq (r := true) rfl rfl (decide_eq_true (by omega))) rfl ?_)
    | refine x_op rfl (x_val (r_neq (r := false) rfl rfl (decide_eq_false (by omega))) rfl ?_)
    | refine x_op rfl (x_val (by first | exact r_ownN (i := 0) (by assumption) rfl rfl rfl | exact r_ownN (i := 1) (by assumption) rfl rfl rfl | exact r_ownN (i := 2) (by assumption) rfl rfl rfl | exact r_ownN (i := 3) (by assumption) rfl rfl rfl | exact r_ownN (i := 4) (by assumption) rfl rfl rfl | exact r_ownN (i := 5) (by assumption) rfl rfl rfl) rfl ?_)
    | refine x_op rfl (s_store (i := 0) (by assumption) rfl rfl rfl rfl rfl rfl ?_)
    | refine x_op rfl (s_store (i := 1) (by assumption) rfl rfl rfl rfl rfl rfl ?_)
    | refine x_op rfl (s_store (i := 2) (by assumption) rfl rfl rfl rfl rfl rfl ?_)
    | refine x_op rfl (s_store (i := 3) (by assumption) rfl rfl rfl rfl rfl rfl ?_)
    | refine x_op rfl (s_store (i := 4) (by assumption) rfl rfl rfl rfl rfl rfl ?_)
    | refine x_op rfl (s_store (i := 5) (by assumption) rfl rfl rfl rfl rfl rfl ?_)
    | refine x_op rfl (s_box rfl rfl fun b hb => ?_) | refine x_op rfl (s_alloc (by assumption) rfl fun b hb => ?_))
  refine x_op rfl (x_val (r_neq_bool (r := false) u4 rfl rfl (by simp)) rfl ?_)
  repeat (first
    | refine x_seq ?_ | refine x_region ?_ | refine x_nil ?_ | refine x_block ?_ | refine x_skip ?_ | refine x_exit rfl ?_ | refine x_true rfl ?_ | refine x_false rfl ?_ | refine x_ret ?_ | refine x_tend ?_
    | refine x_off rfl rfl ?_ | refine x_off0 rfl ?_
    | refine x_op rfl (x_val (r_move rfl) rfl ?_)
    | refine x_op rfl (x_val (r_assign rfl) rfl ?_)
    | refine x_op rfl (x_val (r_extract rfl rfl) rfl ?_)
    | refine x_op rfl (x_val (r_pick_t rfl rfl) rfl ?_)
    | refine x_op rfl (x_val (r_pick_f rfl rfl) rfl ?_)
    | refine x_op rfl (x_val (r_fieldAddr (by assumption) rfl) rfl ?_)
    | refine x_op rfl (x_val (by first | exact r_own_add (i := 0) (by assumption) rfl rfl rfl | exact r_own_add (i := 1) (by assumption) rfl rfl rfl | exact r_own_add (i := 2) (by assumption) rfl rfl rfl | exact r_own_add (i := 3) (by assumption) rfl rfl rfl | exact r_own_add (i := 4) (by assumption) rfl rfl rfl | exact r_own_add (i := 5) (by assumption) rfl rfl rfl | exact r_own (i := 0) (by assumption) rfl rfl rfl | exact r_own (i := 1) (by assumption) rfl rfl rfl | exact r_own (i := 2) (by assumption) rfl rfl rfl | exact r_own (i := 3) (by assumption) rfl rfl rfl | exact r_own (i := 4) (by assumption) rfl rfl rfl | exact r_own (i := 5) (by assumption) rfl rfl rfl) rfl ?_)
    | refine x_op rfl (x_val (r_len_string (by assumption) rfl) rfl ?_)
    | refine x_op rfl (x_val (r_len_slice (by assumption) rfl) rfl ?_)
    | refine x_op rfl (x_val (r_cap_slice (by assumption) rfl) rfl ?_)
    | refine x_op rfl (x_val (r_not rfl rfl) rfl ?_)
    | refine x_op rfl (x_val (r_add rfl rfl ⟨by omega, by omega⟩) rfl ?_)
    | refine x_op rfl (x_val (r_sub rfl rfl ⟨by omega, by omega⟩) rfl ?_)
    | refine x_op rfl (x_val (r_build (by assumption) (by assumption) rfl rfl) rfl ?_)
    | refine x_op rfl (x_val (r_nilCheck rfl) rfl ?_)
    | refine x_op rfl (x_val (r_lss (r := true) rfl rfl (decide_eq_true (by omega))) rfl ?_)
    | refine x_op rfl (x_val (r_lss (r := false) rfl rfl (decide_eq_false (by omega))) rfl ?_)
    | refine x_op rfl (x_val (r_leq (r := true) rfl rfl (decide_eq_true (by omega))) rfl ?_)
    | refine x_op rfl (x_val (r_leq (r := false) rfl rfl (decide_eq_false (by omega))) rfl ?_)
    | refine x_op rfl (x_val (r_gtr (r := true) rfl rfl (decide_eq_true (by omega))) rfl ?_)
    | refine x_op rfl (x_val (r_gtr (r := false) rfl rfl (decide_eq_false (by omega))) rfl ?_)
    | refine x_op rfl (x_val (r_geq (r := true) rfl rfl (decide_eq_true (by omega))) rfl ?_)
    | refine x_op rfl (x_val (r_geq (r := false) rfl rfl (decide_eq_false (by omega))) rfl ?_)
    | refine x_op rfl (x_val (r_eql (r := true) rfl rfl (decide_eq_true (by omega))) rfl ?_)
    | refine x_op rfl (x_val (r_eql (r := false) rfl rfl (decide_eq_false (by omega))) rfl ?_)
    | refine x_op rfl (x_val (r_neq (r := true) rfl rfl (decide_eq_true (by omega))) rfl ?_)
    | refine x_op rfl (x_val (r_neq (r := false) rfl rfl (decide_eq_false (by omega))) rfl ?_)
    | refine x_op rfl (x_val (by first | exact r_ownN (i := 0) (by assumption) rfl rfl rfl | exact r_ownN (i := 1) (by assumption) rfl rfl rfl | exact r_ownN (i := 2) (by assumption) rfl rfl rfl | exact r_ownN (i := 3) (by assumption) rfl rfl rfl | exact r_ownN (i := 4) (by assumption) rfl rfl rfl | exact r_ownN (i := 5) (by assumption) rfl rfl rfl) rfl ?_)
    | refine x_op rfl (s_store (i := 0) (by assumption) rfl rfl rfl rfl rfl rfl ?_)
    | refine x_op rfl (s_store (i := 1) (by assumption) rfl rfl rfl rfl rfl rfl ?_)
    | refine x_op rfl (s_store (i := 2) (by assumption) rfl rfl rfl rfl rfl rfl ?_)
    | refine x_op rfl (s_store (i := 3) (by assumption) rfl rfl rfl rfl rfl rfl ?_)
    | refine x_op rfl (s_store (i := 4) (by assumption) rfl rfl rfl rfl rfl rfl ?_)
    | refine x_op rfl (s_store (i := 5) (by assumption) rfl rfl rfl rfl rfl rfl ?_)
    | refine x_op rfl (s_box rfl rfl fun b hb => ?_) | refine x_op rfl (s_alloc (by assumption) rfl fun b hb => ?_))
  rename_i b1 _
  obtain ⟨b2, hbb⟩ : ∃ x, x = b := ⟨b, rfl⟩; subst hbb
  refine x_loop (fun i : Nat => [(2, .pointer (some ⟨b1, 0, none⟩)), (3, .pointer (some ⟨b2, 0, none⟩)), (5, .int .i64 i)]) (fun _ => [bl b2 24 #[.bool br, .int .i64 first, .slice A2 n c2], bl b1 24 #[.bool br, .int .i64 first, .slice A n c]]) (fun i => i ≤ n) (fun i => n - i) 0 ⟨rfl, rfl, rfl, trivial⟩ (fun _ h => h) (Nat.zero_le _) (fun i hi => ?_)
  repeat (first
    | refine x_seq ?_ | refine x_region ?_ | refine x_nil ?_ | refine x_block ?_ | refine x_skip ?_ | refine x_exit rfl ?_ | refine x_true rfl ?_ | refine x_false rfl ?_ | refine x_ret ?_ | refine x_tend ?_
    | refine x_off rfl rfl ?_ | refine x_off0 rfl ?_
    | refine x_op rfl (x_val (r_move rfl) rfl ?_)
    | refine x_op rfl (x_val (r_assign rfl) rfl ?_)
    | refine x_op rfl (x_val (r_extract rfl rfl) rfl ?_)
    | refine x_op rfl (x_val (r_pick_t rfl rfl) rfl ?_)
    | refine x_op rfl (x_val (r_pick_f rfl rfl) rfl ?_)
    | refine x_op rfl (x_val (r_fieldAddr (by assumption) rfl) rfl ?_)
    | refine x_op rfl (x_val (by first | exact r_own_add (i := 0) (by assumption) rfl rfl rfl | exact r_own_add (i := 1) (by assumption) rfl rfl rfl | exact r_own_add (i := 2) (by assumption) rfl rfl rfl | exact r_own_add (i := 3) (by assumption) rfl rfl rfl | exact r_own_add (i := 4) (by assumption) rfl rfl rfl | exact r_own_add (i := 5) (by assumption) rfl rfl rfl | exact r_own (i := 0) (by assumption) rfl rfl rfl | exact r_own (i := 1) (by assumption) rfl rfl rfl | exact r_own (i := 2) (by assumption) rfl rfl rfl | exact r_own (i := 3) (by assumption) rfl rfl rfl | exact r_own (i := 4) (by assumption) rfl rfl rfl | exact r_own (i := 5) (by assumption) rfl rfl rfl) rfl ?_)
    | refine x_op rfl (x_val (r_len_string (by assumption) rfl) rfl ?_)
    | refine x_op rfl (x_val (r_len_slice (by assumption) rfl) rfl ?_)
    | refine x_op rfl (x_val (r_cap_slice (by assumption) rfl) rfl ?_)
    | refine x_op rfl (x_val (r_not rfl rfl) rfl ?_)
    | refine x_op rfl (x_val (r_add rfl rfl ⟨by omega, by omega⟩) rfl ?_)
    | refine x_op rfl (x_val (r_sub rfl rfl ⟨by omega, by omega⟩) rfl ?_)
    | refine x_op rfl (x_val (r_build (by assumption) (by assumption) rfl rfl) rfl ?_)
    | refine x_op rfl (x_val (r_nilCheck rfl) rfl ?_)
    | refine x_op rfl (x_val (r_lss (r := true) rfl rfl (decide_eq_true (by omega))) rfl ?_)
    | refine x_op rfl (x_val (r_lss (r := false) rfl rfl (decide_eq_false (by omega))) rfl ?_)
    | refine x_op rfl (x_val (r_leq (r := true) rfl rfl (decide_eq_true (by omega))) rfl ?_)
    | refine x_op rfl (x_val (r_leq (r := false) rfl rfl (decide_eq_false (by omega))) rfl ?_)
    | refine x_op rfl (x_val (r_gtr (r := true) rfl rfl (decide_eq_true (by omega))) rfl ?_)
    | refine x_op rfl (x_val (r_gtr (r := false) rfl rfl (decide_eq_false (by omega))) rfl ?_)
    | refine x_op rfl (x_val (r_geq (r := true) rfl rfl (decide_eq_true (by omega))) rfl ?_)
    | refine x_op rfl (x_val (r_geq (r := false) rfl rfl (decide_eq_false (by omega))) rfl ?_)
    | refine x_op rfl (x_val (r_eql (r := true) rfl rfl (decide_eq_true (by omega))) rfl ?_)
    | refine x_op rfl (x_val (r_eql (r := false) rfl rfl (decide_eq_false (by omega))) rfl ?_)
    | refine x_op rfl (x_val (r_neq (r := true) rfl rfl (decide_eq_true (by omega))) rfl ?_)
    | refine x_op rfl (x_val (r_neq (r := false) rfl rfl (decide_eq_false (by omega))) rfl ?_)
    | refine x_op rfl (x_val (by first | exact r_ownN (i := 0) (by assumption) rfl rfl rfl | exact r_ownN (i := 1) (by assumption) rfl rfl rfl | exact r_ownN (i := 2) (by assumption) rfl rfl rfl | exact r_ownN (i := 3) (by assumption) rfl rfl rfl | exact r_ownN (i := 4) (by assumption) rfl rfl rfl | exact r_ownN (i := 5) (by assumption) rfl rfl rfl) rfl ?_)
    | refine x_op rfl (s_store (i := 0) (by assumption) rfl rfl rfl rfl rfl rfl ?_)
    | refine x_op rfl (s_store (i := 1) (by assumption) rfl rfl rfl rfl rfl rfl ?_)
    | refine x_op rfl (s_store (i := 2) (by assumption) rfl rfl rfl rfl rfl rfl ?_)
    | refine x_op rfl (s_store (i := 3) (by assumption) rfl rfl rfl rfl rfl rfl ?_)
    | refine x_op rfl (s_store (i := 4) (by assumption) rfl rfl rfl rfl rfl rfl ?_)
    | refine x_op rfl (s_store (i := 5) (by assumption) rfl rfl rfl rfl rfl rfl ?_)
    | refine x_op rfl (s_box rfl rfl fun b hb => ?_) | refine x_op rfl (s_alloc (by assumption) rfl fun b hb => ?_))
  refine x_op rfl (x_val (r_lss rfl rfl rfl) rfl (x_dec (fun hb => ?_) (fun hb => ?_)))
  · have hc : ps[i]? = some (ps[i]'(by omega)) := List.getElem?_eq_getElem _
    generalize ps[i]'(by omega) = p at hc
    obtain ⟨ad, rfl⟩ := hr.some_ (by omega)
    obtain ⟨ad2, rfl⟩ := hr2.some_ (by omega)
    repeat (first
    | refine x_seq ?_ | refine x_region ?_ | refine x_nil ?_ | refine x_block ?_ | refine x_skip ?_ | refine x_exit rfl ?_ | refine x_true rfl ?_ | refine x_false rfl ?_ | refine x_ret ?_ | refine x_tend ?_
    | refine x_off rfl rfl ?_ | refine x_off0 rfl ?_
    | refine x_op rfl (x_val (r_move rfl) rfl ?_)
    | refine x_op rfl (x_val (r_assign rfl) rfl ?_)
    | refine x_op rfl (x_val (r_extract rfl rfl) rfl ?_)
    | refine x_op rfl (x_val (r_pick_t rfl rfl) rfl ?_)
    | refine x_op rfl (x_val (r_pick_f rfl rfl) rfl ?_)
    | refine x_op rfl (x_val (r_fieldAddr (by assumption) rfl) rfl ?_)
    | refine x_op rfl (x_val (by first | exact r_own_add (i := 0) (by assumption) rfl rfl rfl | exact r_own_add (i := 1) (by assumption) rfl rfl rfl | exact r_own_add (i := 2) (by assumption) rfl rfl rfl | exact r_own_add (i := 3) (by assumption) rfl rfl rfl | exact r_own_add (i := 4) (by assumption) rfl rfl rfl | exact r_own_add (i := 5) (by assumption) rfl rfl rfl | exact r_own (i := 0) (by assumption) rfl rfl rfl | exact r_own (i := 1) (by assumption) rfl rfl rfl | exact r_own (i := 2) (by assumption) rfl rfl rfl | exact r_own (i := 3) (by assumption) rfl rfl rfl | exact r_own (i := 4) (by assumption) rfl rfl rfl | exact r_own (i := 5) (by assumption) rfl rfl rfl) rfl ?_)
    | refine x_op rfl (x_val (r_len_string (by assumption) rfl) rfl ?_)
    | refine x_op rfl (x_val (r_len_slice (by assumption) rfl) rfl ?_)
    | refine x_op rfl (x_val (r_cap_slice (by assumption) rfl) rfl ?_)
    | refine x_op rfl (x_val (r_not rfl rfl) rfl ?_)
    | refine x_op rfl (x_val (r_add rfl rfl ⟨by omega, by omega⟩) rfl ?_)
    | refine x_op rfl (x_val (r_sub rfl rfl ⟨by omega, by omega⟩) rfl ?_)
    | refine x_op rfl (x_val (r_build (by assumption) (by assumption) rfl rfl) rfl ?_)
    | refine x_op rfl (x_val (r_nilCheck rfl) rfl ?_)
    | refine x_op rfl (x_val (r_lss (r := true) rfl rfl (decide_eq_true (by omega))) rfl ?_)
    | refine x_op rfl (x_val (r_lss (r := false) rfl rfl (decide_eq_false (by omega))) rfl ?_)
    | refine x_op rfl (x_val (r_leq (r := true) rfl rfl (decide_eq_true (by omega))) rfl ?_)
    | refine x_op rfl (x_val (r_leq (r := false) rfl rfl (decide_eq_false (by omega))) rfl ?_)
    | refine x_op rfl (x_val (r_gtr (r := true) rfl rfl (decide_eq_true (by omega))) rfl ?_)
    | refine x_op rfl (x_val (r_gtr (r := false) rfl rfl (decide_eq_false (by omega))) rfl ?_)
    | refine x_op rfl (x_val (r_geq (r := true) rfl rfl (decide_eq_true (by omega))) rfl ?_)
    | refine x_op rfl (x_val (r_geq (r := false) rfl rfl (decide_eq_false (by omega))) rfl ?_)
    | refine x_op rfl (x_val (r_eql (r := true) rfl rfl (decide_eq_true (by omega))) rfl ?_)
    | refine x_op rfl (x_val (r_eql (r := false) rfl rfl (decide_eq_false (by omega))) rfl ?_)
    | refine x_op rfl (x_val (r_neq (r := true) rfl rfl (decide_eq_true (by omega))) rfl ?_)
    | refine x_op rfl (x_val (r_neq (r := false) rfl rfl (decide_eq_false (by omega))) rfl ?_)
    | refine x_op rfl (x_val (by first | exact r_ownN (i := 0) (by assumption) rfl rfl rfl | exact r_ownN (i := 1) (by assumption) rfl rfl rfl | exact r_ownN (i := 2) (by assumption) rfl rfl rfl | exact r_ownN (i := 3) (by assumption) rfl rfl rfl | exact r_ownN (i := 4) (by assumption) rfl rfl rfl | exact r_ownN (i := 5) (by assumption) rfl rfl rfl) rfl ?_)
    | refine x_op rfl (s_store (i := 0) (by assumption) rfl rfl rfl rfl rfl rfl ?_)
    | refine x_op rfl (s_store (i := 1) (by assumption) rfl rfl rfl rfl rfl rfl ?_)
    | refine x_op rfl (s_store (i := 2) (by assumption) rfl rfl rfl rfl rfl rfl ?_)
    | refine x_op rfl (s_store (i := 3) (by assumption) rfl rfl rfl rfl rfl rfl ?_)
    | refine x_op rfl (s_store (i := 4) (by assumption) rfl rfl rfl rfl rfl rfl ?_)
    | refine x_op rfl (s_store (i := 5) (by assumption) rfl rfl rfl rfl rfl rfl ?_)
    | refine x_op rfl (s_box rfl rfl fun b hb => ?_) | refine x_op rfl (s_alloc (by assumption) rfl fun b hb => ?_))
    refine x_text (by kernel_rfl) ?_
    refine x_tk rfl (r_fieldAddr q24_2 rfl) rfl (fun _ h => h) ?_
    refine x_tk rfl (r_own_add (i := 1) z22 rfl rfl rfl) rfl (fun _ h => h) ?_
    refine x_tk rfl (r_move rfl) rfl (fun _ h => h) ?_
    refine x_tk rfl (r_indexAddr u22 i36 rfl rfl ⟨by omega, by omega⟩) rfl (fun _ h => h) ?_
    refine x_tk rfl (r_loadN [.string p.1, .string p.2] z36 rfl rfl fun w hS => pair_ (hS.rd0 hr) hc) rfl (fun _ h => h) ?_
    refine x_tk rfl (r_fieldAddr q24_2 rfl) rfl (fun _ h => h) ?_
    refine x_tk rfl (r_own_add (i := 0) z22 rfl rfl rfl) rfl (fun _ h => h) ?_
    refine x_tk rfl (r_move rfl) rfl (fun _ h => h) ?_
    refine x_tk rfl (r_indexAddr u22 i36 rfl rfl ⟨by omega, by omega⟩) rfl (fun _ h => h) ?_
    refine x_tk rfl (r_loadN [.string p.1, .string p.2] z36 rfl rfl fun w hS => pair_ (hS.rd0 hr2) hc) rfl (fun _ h => h) ?_
    refine x_tk rfl (r_neq_pair rfl rfl) rfl (fun _ h => h) ?_
    refine x_tend ?_
    repeat (first
    | refine x_seq ?_ | refine x_region ?_ | refine x_nil ?_ | refine x_block ?_ | refine x_skip ?_ | refine x_exit rfl ?_ | refine x_true rfl ?_ | refine x_false rfl ?_ | refine x_ret ?_ | refine x_tend ?_
    | refine x_off rfl rfl ?_ | refine x_off0 rfl ?_
    | refine x_op rfl (x_val (r_move rfl) rfl ?_)
    | refine x_op rfl (x_val (r_assign rfl) rfl ?_)
    | refine x_op rfl (x_val (r_extract rfl rfl) rfl ?_)
    | refine x_op rfl (x_val (r_pick_t rfl rfl) rfl ?_)
    | refine x_op rfl (x_val (r_pick_f rfl rfl) rfl ?_)
    | refine x_op rfl (x_val (r_fieldAddr (by assumption) rfl) rfl ?_)
    | refine x_op rfl (x_val (by first | exact r_own_add (i := 0) (by assumption) rfl rfl rfl | exact r_own_add (i := 1) (by assumption) rfl rfl rfl | exact r_own_add (i := 2) (by assumption) rfl rfl rfl | exact r_own_add (i := 3) (by assumption) rfl rfl rfl | exact r_own_add (i := 4) (by assumption) rfl rfl rfl | exact r_own_add (i := 5) (by assumption) rfl rfl rfl | exact r_own (i := 0) (by assumption) rfl rfl rfl | exact r_own (i := 1) (by assumption) rfl rfl rfl | exact r_own (i := 2) (by assumption) rfl rfl rfl | exact r_own (i := 3) (by assumption) rfl rfl rfl | exact r_own (i := 4) (by assumption) rfl rfl rfl | exact r_own (i := 5) (by assumption) rfl rfl rfl) rfl ?_)
    | refine x_op rfl (x_val (r_len_string (by assumption) rfl) rfl ?_)
    | refine x_op rfl (x_val (r_len_slice (by assumption) rfl) rfl ?_)
    | refine x_op rfl (x_val (r_cap_slice (by assumption) rfl) rfl ?_)
    | refine x_op rfl (x_val (r_not rfl rfl) rfl ?_)
    | refine x_op rfl (x_val (r_add rfl rfl ⟨by omega, by omega⟩) rfl ?_)
    | refine x_op rfl (x_val (r_sub rfl rfl ⟨by omega, by omega⟩) rfl ?_)
    | refine x_op rfl (x_val (r_build (by assumption) (by assumption) rfl rfl) rfl ?_)
    | refine x_op rfl (x_val (r_nilCheck rfl) rfl ?_)
    | refine x_op rfl (x_val (r_lss (r := true) rfl rfl (decide_eq_true (by omega))) rfl ?_)
    | refine x_op rfl (x_val (r_lss (r := false) rfl rfl (decide_eq_false (by omega))) rfl ?_)
    | refine x_op rfl (x_val (r_leq (r := true) rfl rfl (decide_eq_true (by omega))) rfl ?_)
    | refine x_op rfl (x_val (r_leq (r := false) rfl rfl (decide_eq_false (by omega))) rfl ?_)
    | refine x_op rfl (x_val (r_gtr (r := true) rfl rfl (decide_eq_true (by omega))) rfl ?_)
    | refine x_op rfl (x_val (r_gtr (r := false) rfl rfl (decide_eq_false (by omega))) rfl ?_)
    | refine x_op rfl (x_val (r_geq (r := true) rfl rfl (decide_eq_true (by omega))) rfl ?_)
    | refine x_op rfl (x_val (r_geq (r := false) rfl rfl (decide_eq_false (by omega))) rfl ?_)
    | refine x_op rfl (x_val (r_eql (r := true) rfl rfl (decide_eq_true (by omega))) rfl ?_)
    | refine x_op rfl (x_val (r_eql (r := false) rfl rfl (decide_eq_false (by omega))) rfl ?_)
    | refine x_op rfl (x_val (r_neq (r := true) rfl rfl (decide_eq_true (by omega))) rfl ?_)
    | refine x_op rfl (x_val (r_neq (r := false) rfl rfl (decide_eq_false (by omega))) rfl ?_)
    | refine x_op rfl (x_val (by first | exact r_ownN (i := 0) (by assumption) rfl rfl rfl | exact r_ownN (i := 1) (by assumption) rfl rfl rfl | exact r_ownN (i := 2) (by assumption) rfl rfl rfl | exact r_ownN (i := 3) (by assumption) rfl rfl rfl | exact r_ownN (i := 4) (by assumption) rfl rfl rfl | exact r_ownN (i := 5) (by assumption) rfl rfl rfl) rfl ?_)
    | refine x_op rfl (s_store (i := 0) (by assumption) rfl rfl rfl rfl rfl rfl ?_)
    | refine x_op rfl (s_store (i := 1) (by assumption) rfl rfl rfl rfl rfl rfl ?_)
    | refine x_op rfl (s_store (i := 2) (by assumption) rfl rfl rfl rfl rfl rfl ?_)
    | refine x_op rfl (s_store (i := 3) (by assumption) rfl rfl rfl rfl rfl rfl ?_)
    | refine x_op rfl (s_store (i := 4) (by assumption) rfl rfl rfl rfl rfl rfl ?_)
    | refine x_op rfl (s_store (i := 5) (by assumption) rfl rfl rfl rfl rfl rfl ?_)
    | refine x_op rfl (s_box rfl rfl fun b hb => ?_) | refine x_op rfl (s_alloc (by assumption) rfl fun b hb => ?_))
    exact x_again (i + 1) ⟨rfl, rfl, rfl, trivial⟩ (fun _ h => h) (by omega) (by omega)
  · repeat (first
    | refine x_seq ?_ | refine x_region ?_ | refine x_nil ?_ | refine x_block ?_ | refine x_skip ?_ | refine x_exit rfl ?_ | refine x_true rfl ?_ | refine x_false rfl ?_ | refine x_ret ?_ | refine x_tend ?_
    | refine x_off rfl rfl ?_ | refine x_off0 rfl ?_
    | refine x_op rfl (x_val (r_move rfl) rfl ?_)
    | refine x_op rfl (x_val (r_assign rfl) rfl ?_)
    | refine x_op rfl (x_val (r_extract rfl rfl) rfl ?_)
    | refine x_op rfl (x_val (r_pick_t rfl rfl) rfl ?_)
    | refine x_op rfl (x_val (r_pick_f rfl rfl) rfl ?_)
    | refine x_op rfl (x_val (r_fieldAddr (by assumption) rfl) rfl ?_)
    | refine x_op rfl (x_val (by first | exact r_own_add (i := 0) (by assumption) rfl rfl rfl | exact r_own_add (i := 1) (by assumption) rfl rfl rfl | exact r_own_add (i := 2) (by assumption) rfl rfl rfl | exact r_own_add (i := 3) (by assumption) rfl rfl rfl | exact r_own_add (i := 4) (by assumption) rfl rfl rfl | exact r_own_add (i := 5) (by assumption) rfl rfl rfl | exact r_own (i := 0) (by assumption) rfl rfl rfl | exact r_own (i := 1) (by assumption) rfl rfl rfl | exact r_own (i := 2) (by assumption) rfl rfl rfl | exact r_own (i := 3) (by assumption) rfl rfl rfl | exact r_own (i := 4) (by assumption) rfl rfl rfl | exact r_own (i := 5) (by assumption) rfl rfl rfl) rfl ?_)
    | refine x_op rfl (x_val (r_len_string (by assumption) rfl) rfl ?_)
    | refine x_op rfl (x_val (r_len_slice (by assumption) rfl) rfl ?_)
    | refine x_op rfl (x_val (r_cap_slice (by assumption) rfl) rfl ?_)
    | refine x_op rfl (x_val (r_not rfl rfl) rfl ?_)
    | refine x_op rfl (x_val (r_add rfl rfl ⟨by omega, by omega⟩) rfl ?_)
    | refine x_op rfl (x_val (r_sub rfl rfl ⟨by omega, by omega⟩) rfl ?_)
    | refine x_op rfl (x_val (r_build (by assumption) (by assumption) rfl rfl) rfl ?_)
    | refine x_op rfl (x_val (r_nilCheck rfl) rfl ?_)
    | refine x_op rfl (x_val (r_lss (r := true) rfl rfl (decide_eq_true (by omega))) rfl ?_)
    | refine x_op rfl (x_val (r_lss (r := false) rfl rfl (decide_eq_false (by omega))) rfl ?_)
    | refine x_op rfl (x_val (r_leq (r := true) rfl rfl (decide_eq_true (by omega))) rfl ?_)
    | refine x_op rfl (x_val (r_leq (r := false) rfl rfl (decide_eq_false (by omega))) rfl ?_)
    | refine x_op rfl (x_val (r_gtr (r := true) rfl rfl (decide_eq_true (by omega))) rfl ?_)
    | refine x_op rfl (x_val (r_gtr (r := false) rfl rfl (decide_eq_false (by omega))) rfl ?_)
    | refine x_op rfl (x_val (r_geq (r := true) rfl rfl (decide_eq_true (by omega))) rfl ?_)
    | refine x_op rfl (x_val (r_geq (r := false) rfl rfl (decide_eq_false (by omega))) rfl ?_)
    | refine x_op rfl (x_val (r_eql (r := true) rfl rfl (decide_eq_true (by omega))) rfl ?_)
    | refine x_op rfl (x_val (r_eql (r := false) rfl rfl (decide_eq_false (by omega))) rfl ?_)
    | refine x_op rfl (x_val (r_neq (r := true) rfl rfl (decide_eq_true (by omega))) rfl ?_)
    | refine x_op rfl (x_val (r_neq (r := false) rfl rfl (decide_eq_false (by omega))) rfl ?_)
    | refine x_op rfl (x_val (by first | exact r_ownN (i := 0) (by assumption) rfl rfl rfl | exact r_ownN (i := 1) (by assumption) rfl rfl rfl | exact r_ownN (i := 2) (by assumption) rfl rfl rfl | exact r_ownN (i := 3) (by assumption) rfl rfl rfl | exact r_ownN (i := 4) (by assumption) rfl rfl rfl | exact r_ownN (i := 5) (by assumption) rfl rfl rfl) rfl ?_)
    | refine x_op rfl (s_store (i := 0) (by assumption) rfl rfl rfl rfl rfl rfl ?_)
    | refine x_op rfl (s_store (i := 1) (by assumption) rfl rfl rfl rfl rfl rfl ?_)
    | refine x_op rfl (s_store (i := 2) (by assumption) rfl rfl rfl rfl rfl rfl ?_)
    | refine x_op rfl (s_store (i := 3) (by assumption) rfl rfl rfl rfl rfl rfl ?_)
    | refine x_op rfl (s_store (i := 4) (by assumption) rfl rfl rfl rfl rfl rfl ?_)
    | refine x_op rfl (s_store (i := 5) (by assumption) rfl rfl rfl rfl rfl rfl ?_)
    | refine x_op rfl (s_box rfl rfl fun b hb => ?_) | refine x_op rfl (s_alloc (by assumption) rfl fun b hb => ?_))
    exact x_ret1 rfl rfl fun w1 hO => ⟨_, rfl, rfl, hO.none_⟩
def litP : Pr := (⟨#[97]⟩, ⟨#[49]⟩)
def litN : Nd := ⟨false, 0, [litP]⟩
abbrev pageB : ByteArray := ⟨(encBytes litN).toArray⟩
theorem lit_enc : encodeF litN = (pageB, 0) := by
  have h1 : litN.right = true := by decide +kernel
  have h2 : ¬ 256 < litN.size := by decide +kernel
  unfold encodeF
  rw [if_neg (by rw [h1]; decide), if_neg h2]
theorem lit_len : pageB.size = 256 := by decide +kernel
theorem lit_head : ((pageB.extract 0 7).toList == (⟨#[1, 1, 1, 1, 97, 49, 0]⟩ : ByteArray).toList) = true := by decide +kernel
theorem litEnc_ (A : Option Addr) (c : Nat) (w : World) (hr : Rd w A 1 2 [.string ⟨#[97]⟩, .string ⟨#[49]⟩]) :
    Calls Try.prog 10 #[.agg #[.bool false, .int .i64 0, .slice A 1 c]] w fun en w1 => ∃ r, en = .returned r ∧ (r = .tuple #[.string pageB, .int .i64 0] ∧ Own w [] [] w1) := by
  have h := Encode_ litN A c w hr (fun p hp => by
    obtain rfl : p = litP := List.mem_singleton.1 hp
    exact ⟨show 1 ≤ maxLen by simp only [maxLen]; omega, show 1 ≤ maxLen by simp only [maxLen]; omega⟩)
  rw [lit_enc] at h
  exact h
theorem r_slice_str_hi {P : Program} {n : Nat} {S : World → Prop} {e : Env} {dst : Option Tmp} {ty : TypeId} {pos : String} {af : Array Edge} {g : Option (Nat × Bool)} {x y : Operand} {t : TypeId} {s : ByteArray} {k : IntKind} {i : Int} (ht : P.underlying t = some .string) (hx : ev e x = some (.string s)) (hy : ev e y = some (.int k i)) (h : 0 ≤ i ∧ i ≤ (s.size : Int)) :
    Rig P n S e ⟨dst, .slice t x none (some y) none, ty, pos, af, g⟩ (.string (s.extract 0 i.toNat)) := Rig.mk_ fun ac w hs _ => by
  simp [execOp, hs.ev_ hx, hs.ev_ hy, Instr.sliceAt, Instr.slice, Instr.sliceBounds, Instr.sliceBound, run_underlying ht, asIntOf, h.1, h.2]
set_option maxHeartbeats 8000000 in
set_option maxRecDepth 20000 in
theorem green_ (w : World) : Calls Try.prog 4 #[] w fun en w1 => ∃ r, en = .returned r ∧ (r = .bool true ∧ Own w [] [] w1) := by
  refine fn_enter (args := []) (F := []) Try.func4 rfl rfl rfl ?_
  have u26 := Try.underlying26; have z26 := Ty.z26; have i26 := Ty.i26; have p26 := Ty.p26; have q26_0 := Ty.q26_0; have q26_1 := Ty.q26_1; have q26_2 := Ty.q26_2; have u36 := Try.underlying36; have z36 := Ty.z36; have i36 := Ty.i36; have p36 := Ty.p36; have q36_0 := Ty.q36_0; have q36_1 := Ty.q36_1; have u22 := Try.underlying22; have z22 := Ty.z22; have i22 := Ty.i22; have u9 := Try.underlying9; have z9 := Ty.z9; have i9 := Ty.i9; have u3 := Try.underlying3; have z3 := Ty.z3; have i3 := Ty.i3; have u4 := Try.underlying4; have z4 := Ty.z4; have i4 := Ty.i4; have u28 := Try.underlying28; have z28 := Ty.z28; have i28 := Ty.i28
  repeat (first
    | refine x_seq ?_ | refine x_region ?_ | refine x_nil ?_ | refine x_block ?_ | refine x_skip ?_ | refine x_exit rfl ?_ | refine x_true rfl ?_ | refine x_false rfl ?_ | refine x_ret ?_ | refine x_tend ?_
    | refine x_off rfl rfl ?_ | refine x_off0 rfl ?_
    | refine x_op rfl (x_val (r_move rfl) rfl ?_)
    | refine x_op rfl (x_val (r_assign rfl) rfl ?_)
    | refine x_op rfl (x_val (r_extract rfl rfl) rfl ?_)
    | refine x_op rfl (x_val (r_pick_t rfl rfl) rfl ?_)
    | refine x_op rfl (x_val (r_pick_f rfl rfl) rfl ?_)
    | refine x_op rfl (x_val (r_fieldAddr (by assumption) rfl) rfl ?_)
    | refine x_op rfl (x_val (by first | exact r_own_add (i := 0) (by assumption) rfl rfl rfl | exact r_own_add (i := 1) (by assumption) rfl rfl rfl | exact r_own_add (i := 2) (by assumption) rfl rfl rfl | exact r_own_add (i := 3) (by assumption) rfl rfl rfl | exact r_own_add (i := 4) (by assumption) rfl rfl rfl | exact r_own_add (i := 5) (by assumption) rfl rfl rfl | exact r_own (i := 0) (by assumption) rfl rfl rfl | exact r_own (i := 1) (by assumption) rfl rfl rfl | exact r_own (i := 2) (by assumption) rfl rfl rfl | exact r_own (i := 3) (by assumption) rfl rfl rfl | exact r_own (i := 4) (by assumption) rfl rfl rfl | exact r_own (i := 5) (by assumption) rfl rfl rfl) rfl ?_)
    | refine x_op rfl (x_val (r_len_string (by assumption) rfl) rfl ?_)
    | refine x_op rfl (x_val (r_len_slice (by assumption) rfl) rfl ?_)
    | refine x_op rfl (x_val (r_cap_slice (by assumption) rfl) rfl ?_)
    | refine x_op rfl (x_val (r_not rfl rfl) rfl ?_)
    | refine x_op rfl (x_val (r_add rfl rfl ⟨by omega, by omega⟩) rfl ?_)
    | refine x_op rfl (x_val (r_sub rfl rfl ⟨by omega, by omega⟩) rfl ?_)
    | refine x_op rfl (x_val (r_build (by assumption) (by assumption) rfl rfl) rfl ?_)
    | refine x_op rfl (x_val (r_nilCheck rfl) rfl ?_)
    | refine x_op rfl (x_val (r_lss (r := true) rfl rfl (decide_eq_true (by omega))) rfl ?_)
    | refine x_op rfl (x_val (r_lss (r := false) rfl rfl (decide_eq_false (by omega))) rfl ?_)
    | refine x_op rfl (x_val (r_leq (r := true) rfl rfl (decide_eq_true (by omega))) rfl ?_)
    | refine x_op rfl (x_val (r_leq (r := false) rfl rfl (decide_eq_false (by omega))) rfl ?_)
    | refine x_op rfl (x_val (r_gtr (r := true) rfl rfl (decide_eq_true (by omega))) rfl ?_)
    | refine x_op rfl (x_val (r_gtr (r := false) rfl rfl (decide_eq_false (by omega))) rfl ?_)
    | refine x_op rfl (x_val (r_geq (r := true) rfl rfl (decide_eq_true (by omega))) rfl ?_)
    | refine x_op rfl (x_val (r_geq (r := false) rfl rfl (decide_eq_false (by omega))) rfl ?_)
    | refine x_op rfl (x_val (r_eql (r := true) rfl rfl (decide_eq_true (by omega))) rfl ?_)
    | refine x_op rfl (x_val (r_eql (r := false) rfl rfl (decide_eq_false (by omega))) rfl ?_)
    | refine x_op rfl (x_val (r_neq (r := true) rfl rfl (decide_eq_true (by omega))) rfl ?_)
    | refine x_op rfl (x_val (r_neq (r := false) rfl rfl (decide_eq_false (by omega))) rfl ?_)
    | refine x_op rfl (x_val (by first | exact r_ownN (i := 0) (by assumption) rfl rfl rfl | exact r_ownN (i := 1) (by assumption) rfl rfl rfl | exact r_ownN (i := 2) (by assumption) rfl rfl rfl | exact r_ownN (i := 3) (by assumption) rfl rfl rfl | exact r_ownN (i := 4) (by assumption) rfl rfl rfl | exact r_ownN (i := 5) (by assumption) rfl rfl rfl) rfl ?_)
    | refine x_op rfl (s_store (i := 0) (by assumption) rfl rfl rfl rfl rfl rfl ?_)
    | refine x_op rfl (s_store (i := 1) (by assumption) rfl rfl rfl rfl rfl rfl ?_)
    | refine x_op rfl (s_store (i := 2) (by assumption) rfl rfl rfl rfl rfl rfl ?_)
    | refine x_op rfl (s_store (i := 3) (by assumption) rfl rfl rfl rfl rfl rfl ?_)
    | refine x_op rfl (s_store (i := 4) (by assumption) rfl rfl rfl rfl rfl rfl ?_)
    | refine x_op rfl (s_store (i := 5) (by assumption) rfl rfl rfl rfl rfl rfl ?_)
    | refine x_op rfl (s_box rfl rfl fun b hb => ?_) | refine x_op rfl (s_alloc (by assumption) rfl fun b hb => ?_))
  refine x_op rfl (s_buildSlice u22 i36 rfl rfl rfl rfl fun b hb => ?_)
  repeat (first
    | refine x_seq ?_ | refine x_region ?_ | refine x_nil ?_ | refine x_block ?_ | refine x_skip ?_ | refine x_exit rfl ?_ | refine x_true rfl ?_ | refine x_false rfl ?_ | refine x_ret ?_ | refine x_tend ?_
    | refine x_off rfl rfl ?_ | refine x_off0 rfl ?_
    | refine x_op rfl (x_val (r_move rfl) rfl ?_)
    | refine x_op rfl (x_val (r_assign rfl) rfl ?_)
    | refine x_op rfl (x_val (r_extract rfl rfl) rfl ?_)
    | refine x_op rfl (x_val (r_pick_t rfl rfl) rfl ?_)
    | refine x_op rfl (x_val (r_pick_f rfl rfl) rfl ?_)
    | refine x_op rfl (x_val (r_fieldAddr (by assumption) rfl) rfl ?_)
    | refine x_op rfl (x_val (by first | exact r_own_add (i := 0) (by assumption) rfl rfl rfl | exact r_own_add (i := 1) (by assumption) rfl rfl rfl | exact r_own_add (i := 2) (by assumption) rfl rfl rfl | exact r_own_add (i := 3) (by assumption) rfl rfl rfl | exact r_own_add (i := 4) (by assumption) rfl rfl rfl | exact r_own_add (i := 5) (by assumption) rfl rfl rfl | exact r_own (i := 0) (by assumption) rfl rfl rfl | exact r_own (i := 1) (by assumption) rfl rfl rfl | exact r_own (i := 2) (by assumption) rfl rfl rfl | exact r_own (i := 3) (by assumption) rfl rfl rfl | exact r_own (i := 4) (by assumption) rfl rfl rfl | exact r_own (i := 5) (by assumption) rfl rfl rfl) rfl ?_)
    | refine x_op rfl (x_val (r_len_string (by assumption) rfl) rfl ?_)
    | refine x_op rfl (x_val (r_len_slice (by assumption) rfl) rfl ?_)
    | refine x_op rfl (x_val (r_cap_slice (by assumption) rfl) rfl ?_)
    | refine x_op rfl (x_val (r_not rfl rfl) rfl ?_)
    | refine x_op rfl (x_val (r_add rfl rfl ⟨by omega, by omega⟩) rfl ?_)
    | refine x_op rfl (x_val (r_sub rfl rfl ⟨by omega, by omega⟩) rfl ?_)
    | refine x_op rfl (x_val (r_build (by assumption) (by assumption) rfl rfl) rfl ?_)
    | refine x_op rfl (x_val (r_nilCheck rfl) rfl ?_)
    | refine x_op rfl (x_val (r_lss (r := true) rfl rfl (decide_eq_true (by omega))) rfl ?_)
    | refine x_op rfl (x_val (r_lss (r := false) rfl rfl (decide_eq_false (by omega))) rfl ?_)
    | refine x_op rfl (x_val (r_leq (r := true) rfl rfl (decide_eq_true (by omega))) rfl ?_)
    | refine x_op rfl (x_val (r_leq (r := false) rfl rfl (decide_eq_false (by omega))) rfl ?_)
    | refine x_op rfl (x_val (r_gtr (r := true) rfl rfl (decide_eq_true (by omega))) rfl ?_)
    | refine x_op rfl (x_val (r_gtr (r := false) rfl rfl (decide_eq_false (by omega))) rfl ?_)
    | refine x_op rfl (x_val (r_geq (r := true) rfl rfl (decide_eq_true (by omega))) rfl ?_)
    | refine x_op rfl (x_val (r_geq (r := false) rfl rfl (decide_eq_false (by omega))) rfl ?_)
    | refine x_op rfl (x_val (r_eql (r := true) rfl rfl (decide_eq_true (by omega))) rfl ?_)
    | refine x_op rfl (x_val (r_eql (r := false) rfl rfl (decide_eq_false (by omega))) rfl ?_)
    | refine x_op rfl (x_val (r_neq (r := true) rfl rfl (decide_eq_true (by omega))) rfl ?_)
    | refine x_op rfl (x_val (r_neq (r := false) rfl rfl (decide_eq_false (by omega))) rfl ?_)
    | refine x_op rfl (x_val (by first | exact r_ownN (i := 0) (by assumption) rfl rfl rfl | exact r_ownN (i := 1) (by assumption) rfl rfl rfl | exact r_ownN (i := 2) (by assumption) rfl rfl rfl | exact r_ownN (i := 3) (by assumption) rfl rfl rfl | exact r_ownN (i := 4) (by assumption) rfl rfl rfl | exact r_ownN (i := 5) (by assumption) rfl rfl rfl) rfl ?_)
    | refine x_op rfl (s_store (i := 0) (by assumption) rfl rfl rfl rfl rfl rfl ?_)
    | refine x_op rfl (s_store (i := 1) (by assumption) rfl rfl rfl rfl rfl rfl ?_)
    | refine x_op rfl (s_store (i := 2) (by assumption) rfl rfl rfl rfl rfl rfl ?_)
    | refine x_op rfl (s_store (i := 3) (by assumption) rfl rfl rfl rfl rfl rfl ?_)
    | refine x_op rfl (s_store (i := 4) (by assumption) rfl rfl rfl rfl rfl rfl ?_)
    | refine x_op rfl (s_store (i := 5) (by assumption) rfl rfl rfl rfl rfl rfl ?_)
    | refine x_op rfl (s_box rfl rfl fun b hb => ?_) | refine x_op rfl (s_alloc (by assumption) rfl fun b hb => ?_))
  refine x_op rfl (s_call Ty.c10 rfl rfl (fun w hw => litEnc_ (some ⟨b, 0, none⟩) 1 w (hw.rd_bl (i := 0) rfl rfl (by simp [maxLen]) rfl)) (fun wq v wq1 hw h => ?_)); obtain ⟨rfl, hO⟩ := h; refine ⟨_, hw.call0 hO, ?_⟩
  generalize hp : pageB = pg
  have h1 : pg.size = 256 := by rw [← hp]; exact lit_len
  have h2 : ((pg.extract 0 7).toList == (⟨#[1, 1, 1, 1, 97, 49, 0]⟩ : ByteArray).toList) = true := by rw [← hp]; exact lit_head
  clear hp
  repeat (first
    | refine x_seq ?_ | refine x_region ?_ | refine x_nil ?_ | refine x_block ?_ | refine x_skip ?_ | refine x_exit rfl ?_ | refine x_true rfl ?_ | refine x_false rfl ?_ | refine x_ret ?_ | refine x_tend ?_
    | refine x_off rfl rfl ?_ | refine x_off0 rfl ?_
    | refine x_op rfl (x_val (r_move rfl) rfl ?_)
    | refine x_op rfl (x_val (r_assign rfl) rfl ?_)
    | refine x_op rfl (x_val (r_extract rfl rfl) rfl ?_)
    | refine x_op rfl (x_val (r_pick_t rfl rfl) rfl ?_)
    | refine x_op rfl (x_val (r_pick_f rfl rfl) rfl ?_)
    | refine x_op rfl (x_val (r_fieldAddr (by assumption) rfl) rfl ?_)
    | refine x_op rfl (x_val (by first | exact r_own_add (i := 0) (by assumption) rfl rfl rfl | exact r_own_add (i := 1) (by assumption) rfl rfl rfl | exact r_own_add (i := 2) (by assumption) rfl rfl rfl | exact r_own_add (i := 3) (by assumption) rfl rfl rfl | exact r_own_add (i := 4) (by assumption) rfl rfl rfl | exact r_own_add (i := 5) (by assumption) rfl rfl rfl | exact r_own (i := 0) (by assumption) rfl rfl rfl | exact r_own (i := 1) (by assumption) rfl rfl rfl | exact r_own (i := 2) (by assumption) rfl rfl rfl | exact r_own (i := 3) (by assumption) rfl rfl rfl | exact r_own (i := 4) (by assumption) rfl rfl rfl | exact r_own (i := 5) (by assumption) rfl rfl rfl) rfl ?_)
    | refine x_op rfl (x_val (r_len_string (by assumption) rfl) rfl ?_)
    | refine x_op rfl (x_val (r_len_slice (by assumption) rfl) rfl ?_)
    | refine x_op rfl (x_val (r_cap_slice (by assumption) rfl) rfl ?_)
    | refine x_op rfl (x_val (r_not rfl rfl) rfl ?_)
    | refine x_op rfl (x_val (r_add rfl rfl ⟨by omega, by omega⟩) rfl ?_)
    | refine x_op rfl (x_val (r_sub rfl rfl ⟨by omega, by omega⟩) rfl ?_)
    | refine x_op rfl (x_val (r_build (by assumption) (by assumption) rfl rfl) rfl ?_)
    | refine x_op rfl (x_val (r_nilCheck rfl) rfl ?_)
    | refine x_op rfl (x_val (r_lss (r := true) rfl rfl (decide_eq_true (by omega))) rfl ?_)
    | refine x_op rfl (x_val (r_lss (r := false) rfl rfl (decide_eq_false (by omega))) rfl ?_)
    | refine x_op rfl (x_val (r_leq (r := true) rfl rfl (decide_eq_true (by omega))) rfl ?_)
    | refine x_op rfl (x_val (r_leq (r := false) rfl rfl (decide_eq_false (by omega))) rfl ?_)
    | refine x_op rfl (x_val (r_gtr (r := true) rfl rfl (decide_eq_true (by omega))) rfl ?_)
    | refine x_op rfl (x_val (r_gtr (r := false) rfl rfl (decide_eq_false (by omega))) rfl ?_)
    | refine x_op rfl (x_val (r_geq (r := true) rfl rfl (decide_eq_true (by omega))) rfl ?_)
    | refine x_op rfl (x_val (r_geq (r := false) rfl rfl (decide_eq_false (by omega))) rfl ?_)
    | refine x_op rfl (x_val (r_eql (r := true) rfl rfl (decide_eq_true (by omega))) rfl ?_)
    | refine x_op rfl (x_val (r_eql (r := false) rfl rfl (decide_eq_false (by omega))) rfl ?_)
    | refine x_op rfl (x_val (r_neq (r := true) rfl rfl (decide_eq_true (by omega))) rfl ?_)
    | refine x_op rfl (x_val (r_neq (r := false) rfl rfl (decide_eq_false (by omega))) rfl ?_)
    | refine x_op rfl (x_val (by first | exact r_ownN (i := 0) (by assumption) rfl rfl rfl | exact r_ownN (i := 1) (by assumption) rfl rfl rfl | exact r_ownN (i := 2) (by assumption) rfl rfl rfl | exact r_ownN (i := 3) (by assumption) rfl rfl rfl | exact r_ownN (i := 4) (by assumption) rfl rfl rfl | exact r_ownN (i := 5) (by assumption) rfl rfl rfl) rfl ?_)
    | refine x_op rfl (s_store (i := 0) (by assumption) rfl rfl rfl rfl rfl rfl ?_)
    | refine x_op rfl (s_store (i := 1) (by assumption) rfl rfl rfl rfl rfl rfl ?_)
    | refine x_op rfl (s_store (i := 2) (by assumption) rfl rfl rfl rfl rfl rfl ?_)
    | refine x_op rfl (s_store (i := 3) (by assumption) rfl rfl rfl rfl rfl rfl ?_)
    | refine x_op rfl (s_store (i := 4) (by assumption) rfl rfl rfl rfl rfl rfl ?_)
    | refine x_op rfl (s_store (i := 5) (by assumption) rfl rfl rfl rfl rfl rfl ?_)
    | refine x_op rfl (s_box rfl rfl fun b hb => ?_) | refine x_op rfl (s_alloc (by assumption) rfl fun b hb => ?_))
  refine x_op rfl (x_val (r_slice_str_hi u9 rfl rfl ⟨by omega, by omega⟩) rfl ?_)
  refine x_op rfl (x_val (r_eql_string rfl rfl h2) rfl ?_)
  repeat (first
    | refine x_seq ?_ | refine x_region ?_ | refine x_nil ?_ | refine x_block ?_ | refine x_skip ?_ | refine x_exit rfl ?_ | refine x_true rfl ?_ | refine x_false rfl ?_ | refine x_ret ?_ | refine x_tend ?_
    | refine x_off rfl rfl ?_ | refine x_off0 rfl ?_
    | refine x_op rfl (x_val (r_move rfl) rfl ?_)
    | refine x_op rfl (x_val (r_assign rfl) rfl ?_)
    | refine x_op rfl (x_val (r_extract rfl rfl) rfl ?_)
    | refine x_op rfl (x_val (r_pick_t rfl rfl) rfl ?_)
    | refine x_op rfl (x_val (r_pick_f rfl rfl) rfl ?_)
    | refine x_op rfl (x_val (r_fieldAddr (by assumption) rfl) rfl ?_)
    | refine x_op rfl (x_val (by first | exact r_own_add (i := 0) (by assumption) rfl rfl rfl | exact r_own_add (i := 1) (by assumption) rfl rfl rfl | exact r_own_add (i := 2) (by assumption) rfl rfl rfl | exact r_own_add (i := 3) (by assumption) rfl rfl rfl | exact r_own_add (i := 4) (by assumption) rfl rfl rfl | exact r_own_add (i := 5) (by assumption) rfl rfl rfl | exact r_own (i := 0) (by assumption) rfl rfl rfl | exact r_own (i := 1) (by assumption) rfl rfl rfl | exact r_own (i := 2) (by assumption) rfl rfl rfl | exact r_own (i := 3) (by assumption) rfl rfl rfl | exact r_own (i := 4) (by assumption) rfl rfl rfl | exact r_own (i := 5) (by assumption) rfl rfl rfl) rfl ?_)
    | refine x_op rfl (x_val (r_len_string (by assumption) rfl) rfl ?_)
    | refine x_op rfl (x_val (r_len_slice (by assumption) rfl) rfl ?_)
    | refine x_op rfl (x_val (r_cap_slice (by assumption) rfl) rfl ?_)
    | refine x_op rfl (x_val (r_not rfl rfl) rfl ?_)
    | refine x_op rfl (x_val (r_add rfl rfl ⟨by omega, by omega⟩) rfl ?_)
    | refine x_op rfl (x_val (r_sub rfl rfl ⟨by omega, by omega⟩) rfl ?_)
    | refine x_op rfl (x_val (r_build (by assumption) (by assumption) rfl rfl) rfl ?_)
    | refine x_op rfl (x_val (r_nilCheck rfl) rfl ?_)
    | refine x_op rfl (x_val (r_lss (r := true) rfl rfl (decide_eq_true (by omega))) rfl ?_)
    | refine x_op rfl (x_val (r_lss (r := false) rfl rfl (decide_eq_false (by omega))) rfl ?_)
    | refine x_op rfl (x_val (r_leq (r := true) rfl rfl (decide_eq_true (by omega))) rfl ?_)
    | refine x_op rfl (x_val (r_leq (r := false) rfl rfl (decide_eq_false (by omega))) rfl ?_)
    | refine x_op rfl (x_val (r_gtr (r := true) rfl rfl (decide_eq_true (by omega))) rfl ?_)
    | refine x_op rfl (x_val (r_gtr (r := false) rfl rfl (decide_eq_false (by omega))) rfl ?_)
    | refine x_op rfl (x_val (r_geq (r := true) rfl rfl (decide_eq_true (by omega))) rfl ?_)
    | refine x_op rfl (x_val (r_geq (r := false) rfl rfl (decide_eq_false (by omega))) rfl ?_)
    | refine x_op rfl (x_val (r_eql (r := true) rfl rfl (decide_eq_true (by omega))) rfl ?_)
    | refine x_op rfl (x_val (r_eql (r := false) rfl rfl (decide_eq_false (by omega))) rfl ?_)
    | refine x_op rfl (x_val (r_neq (r := true) rfl rfl (decide_eq_true (by omega))) rfl ?_)
    | refine x_op rfl (x_val (r_neq (r := false) rfl rfl (decide_eq_false (by omega))) rfl ?_)
    | refine x_op rfl (x_val (by first | exact r_ownN (i := 0) (by assumption) rfl rfl rfl | exact r_ownN (i := 1) (by assumption) rfl rfl rfl | exact r_ownN (i := 2) (by assumption) rfl rfl rfl | exact r_ownN (i := 3) (by assumption) rfl rfl rfl | exact r_ownN (i := 4) (by assumption) rfl rfl rfl | exact r_ownN (i := 5) (by assumption) rfl rfl rfl) rfl ?_)
    | refine x_op rfl (s_store (i := 0) (by assumption) rfl rfl rfl rfl rfl rfl ?_)
    | refine x_op rfl (s_store (i := 1) (by assumption) rfl rfl rfl rfl rfl rfl ?_)
    | refine x_op rfl (s_store (i := 2) (by assumption) rfl rfl rfl rfl rfl rfl ?_)
    | refine x_op rfl (s_store (i := 3) (by assumption) rfl rfl rfl rfl rfl rfl ?_)
    | refine x_op rfl (s_store (i := 4) (by assumption) rfl rfl rfl rfl rfl rfl ?_)
    | refine x_op rfl (s_store (i := 5) (by assumption) rfl rfl rfl rfl rfl rfl ?_)
    | refine x_op rfl (s_box rfl rfl fun b hb => ?_) | refine x_op rfl (s_alloc (by assumption) rfl fun b hb => ?_))
  exact x_ret1 rfl rfl fun w1 hO => ⟨_, rfl, rfl, hO.none_⟩
end Go.Proofs.Ytlpoepmipbegaaa.Lf
