/- leaf.Merge. -/
import Derived.Test.YtlpoepmipbegaaaLs
import Derived.Test.YtlpoepmipbegaaaE2
set_option linter.unusedVariables false
set_option linter.unusedSimpArgs false
namespace Go.Proofs.Ytlpoepmipbegaaa.Lf
open Go Go.RowKit Go.Proofs.Ytlpoepmipbegaaa.En Go.Proofs.Ytlpoepmipbegaaa.Lm
def mergeCs (a b : Nd) (key : ByteArray) : List Pr := a.cs ++ (if a.br then [(key, four4 b.first)] else []) ++ b.cs
def mergeF (a : Nd) (key : ByteArray) (b : Nd) : Nd × Int :=
  if a.br ≠ b.br then (.zero, 1) else if (!a.right || !b.right) = true then (.zero, 2)
  else if Nd.right ⟨a.br, a.first, mergeCs a b key⟩ = false then (.zero, 2) else (⟨a.br, a.first, mergeCs a b key⟩, 0)
theorem strOfNums_size : ∀ (ns : List Int), (strOfNums ns).size = ns.length := fun ns => by
  unfold strOfNums ByteArray.size
  simp
set_option maxHeartbeats 8000000 in
set_option maxRecDepth 20000 in
theorem Merge_ (a b : Nd) (key : ByteArray) (A B : Option Addr) (ca cb : Nat) (w : World) (ha : Rd w A a.cs.length 2 (fl a.cs)) (hB : Rd w B b.cs.length 2 (fl b.cs)) (hk : key.size ≤ maxLen) (hsa : ∀ p ∈ a.cs, p.1.size ≤ maxLen ∧ p.2.size ≤ maxLen) (hsb : ∀ p ∈ b.cs, p.1.size ≤ maxLen ∧ p.2.size ≤ maxLen) :
    Calls Try.prog 7 #[a.val A ca, .string key, b.val B cb] w fun en w1 => ∃ r, en = .returned r ∧
      ∃ A1 c1, r = .tuple #[(mergeF a key b).1.val A1 c1, .int .i64 (mergeF a key b).2] ∧
        SlOk A1 (mergeF a key b).1.cs.length c1 2 (fl (mergeF a key b).1.cs) ∧ Own w [] [sl A1 c1 36 2 (fl (mergeF a key b).1.cs)] w1 := by
  obtain ⟨br, first, ps⟩ := a
  obtain ⟨br2, first2, qs⟩ := b
  refine fn_enter (args := [_, _, _]) (F := []) Try.func7 rfl rfl rfl ?_
  have u26 := Try.underlying26; have z26 := Ty.z26; have i26 := Ty.i26; have p26 := Ty.p26; have q26_0 := Ty.q26_0; have q26_1 := Ty.q26_1; have q26_2 := Ty.q26_2; have u22 := Try.underlying22; have z22 := Ty.z22; have i22 := Ty.i22; have u36 := Try.underlying36; have z36 := Ty.z36; have i36 := Ty.i36; have p36 := Ty.p36; have q36_0 := Ty.q36_0; have q36_1 := Ty.q36_1; have u9 := Try.underlying9; have z9 := Ty.z9; have i9 := Ty.i9; have u3 := Try.underlying3; have z3 := Ty.z3; have i3 := Ty.i3; have u4 := Try.underlying4; have z4 := Ty.z4; have i4 := Ty.i4
  simp only [Nd.val] at ha hB hsa hsb ⊢
  generalize hM : mergeF ⟨br, first, ps⟩ key ⟨br2, first2, qs⟩ = M
  have herr : ∀ (w1 : World) (L : List Asn) (k : Int), Own w [] L w1 → M = (.zero, k) →
      ∃ r, Ending.returned (.tuple #[Nd.zero.val none 0, .int .i64 k]) = .returned r ∧
      ∃ A1 c1, r = .tuple #[.agg #[.bool M.1.br, .int .i64 M.1.first, .slice A1 M.1.cs.length c1], .int .i64 M.2] ∧
        SlOk A1 M.1.cs.length c1 2 (fl M.1.cs) ∧ Own w [] [sl A1 c1 36 2 (fl M.1.cs)] w1 := by
    intro w1 L k hO h
    rw [h]
    exact ⟨_, rfl, none, 0, rfl, SlOk.nil_ 2, hO.none_.nilsl _ _⟩
  refine x_seq ?_
  repeat (first
    | refine x_region ?_ | refine x_nil ?_ | refine x_tend ?_
    | refine x_off rfl rfl ?_ | refine x_off0 rfl ?_
    | refine x_op rfl (x_val (r_move rfl) rfl ?_)
    | refine x_op rfl (x_val (r_assign rfl) rfl ?_)
    | refine x_op rfl (x_val (r_extract rfl rfl) rfl ?_)
    | refine x_op rfl (x_val (r_pick_t rfl rfl) rfl ?_)
    | refine x_op rfl (x_val (r_pick_f rfl rfl) rfl ?_)
    | refine x_op rfl (x_val (r_fieldAddr (by assumption) rfl) rfl ?_)
    | refine x_op rfl (x_val (by first | exact r_own_add (i := 0) (by assumption) rfl rfl rfl | exact r_own_add (i := 1) (by assumption) rfl rfl rfl | exact r_own_add (i := 2) (by assumption) rfl rfl rfl | exact r_own_add (i := 3) (by assumption) rfl rfl rfl | exact r_own_add (i := 4) (by assumption) rfl rfl rfl | exact r_own_add (i := 5) (by assumption) rfl rfl rfl | exact r_own (i := 0) (by assumption) rfl rfl rfl | exact r_own (i := 1) (by assumption) rfl rfl rfl | exact r_own (i := 2) (by assumption) rfl rfl rfl | exact r_own (i := 3) (by assumption) rfl rfl rfl | exact r_own (i := 4) (by assumption) rfl rfl rfl | exact r_own (i := 5) (by assumption) rfl rfl rfl) rfl ?_)
    | refine x_op rfl (x_val (r_len_string (by assumption) rfl) rfl ?_)
    | refine x_op rfl (x_val (r_len_slice (by assumption) rfl) rfl ?_)
    | refine x_op rfl (x_val (r_cap_slice (by assumption) rfl) rfl ?_)
    | refine x_op rfl (x_val (r_not rfl rfl) rfl ?_)
    | refine x_op rfl (x_val (r_add rfl rfl ⟨by omega, by omega⟩) rfl ?_)
    | refine x_op rfl (x_val (r_sub rfl rfl ⟨by omega, by omega⟩) rfl ?_)
    | refine x_op rfl (x_val (r_build (by assumption) (by assumption) rfl rfl) rfl ?_)
    | refine x_op rfl (x_val (r_nilCheck rfl) rfl ?_)
    | refine x_op rfl (x_val (r_lss (r := true) rfl rfl (decide_eq_true (by omega))) rfl ?_)
    | refine x_op rfl (x_val (r_lss (r := false) rfl rfl (decide_eq_false (by omega))) rfl ?_)
    | refine x_op rfl (x_val (r_leq (r := true) rfl rfl (decide_eq_true (by omega))) rfl ?_)
    | refine x_op rfl (x_val (r_leq (r := false) rfl rfl (decide_eq_false (by omega))) rfl ?_)
    | refine x_op rfl (x_val (r_gtr (r := true) rfl rfl (decide_eq_true (by omega))) rfl ?_)
    | refine x_op rfl (x_val (r_gtr (r := false) rfl rfl (decide_eq_false (by omega))) rfl ?_)
    | refine x_op rfl (x_val (r_geq (r := true) rfl rfl (decide_eq_true (by omega))) rfl ?_)
    | refine x_op rfl (x_val (r_geq (r := false) rfl rfl (decide_eq_false (by omega))) rfl ?_)
    | refine x_op rfl (x_val (r_eql (r := true) rfl rfl (decide_eq_true (by omega))) rfl ?_)
    | refine x_op rfl (x_val (r_eql (r := false) rfl rfl (decide_eq_false (by omega))) rfl ?_)
    | refine x_op rfl (x_val (r_neq (r := true) rfl rfl (decide_eq_true (by omega))) rfl ?_)
    | refine x_op rfl (x_val (r_neq (r := false) rfl rfl (decide_eq_false (by omega))) rfl ?_)
    | refine x_op rfl (x_val (by first | exact r_ownN (i := 0) (by assumption) rfl rfl rfl | exact r_ownN (i := 1) (by assumption) rfl rfl rfl | exact r_ownN (i := 2) (by assumption) rfl rfl rfl | exact r_ownN (i := 3) (by assumption) rfl rfl rfl | exact r_ownN (i := 4) (by assumption) rfl rfl rfl | exact r_ownN (i := 5) (by assumption) rfl rfl rfl) rfl ?_)
    | refine x_op rfl (s_store (i := 0) (by assumption) rfl rfl rfl rfl rfl rfl ?_)
    | refine x_op rfl (s_store (i := 1) (by assumption) rfl rfl rfl rfl rfl rfl ?_)
    | refine x_op rfl (s_store (i := 2) (by assumption) rfl rfl rfl rfl rfl rfl ?_)
    | refine x_op rfl (s_store (i := 3) (by assumption) rfl rfl rfl rfl rfl rfl ?_)
    | refine x_op rfl (s_store (i := 4) (by assumption) rfl rfl rfl rfl rfl rfl ?_)
    | refine x_op rfl (s_store (i := 5) (by assumption) rfl rfl rfl rfl rfl rfl ?_)
    | refine x_op rfl (s_box rfl rfl fun b hb => ?_) | refine x_op rfl (s_alloc (by assumption) rfl fun b hb => ?_))
  refine x_cut (σ := Nat × Nat × Nat) (fun s => [(1, .string key), (3, .pointer (some ⟨s.1, 0, none⟩)), (5, .pointer (some ⟨s.2.1, 0, none⟩)), (6, .pointer (some ⟨s.2.2, 0, none⟩))])
    (fun s => [bl s.2.2 26 #[.bool false, .int .i64 0, .slice none 0 0], bl s.2.1 26 #[.bool br2, .int .i64 first2, .slice B qs.length cb], bl s.1 26 #[.bool br, .int .i64 first, .slice A ps.length ca]]) (fun _ => br2 = br ∧ Nd.right ⟨br, first, ps⟩ = true ∧ Nd.right ⟨br2, first2, qs⟩ = true) ?_ ?_
  · repeat (first
    | refine x_seq ?_ | refine x_region ?_ | refine x_nil ?_ | refine x_block ?_ | refine x_skip ?_ | refine x_exit rfl ?_ | refine x_true rfl ?_ | refine x_false rfl ?_ | refine x_ret ?_ | refine x_tend ?_
    | refine x_off rfl rfl ?_ | refine x_off0 rfl ?_
    | refine x_op rfl (x_val (r_move rfl) rfl ?_)
    | refine x_op rfl (x_val (r_assign rfl) rfl ?_)
    | refine x_op rfl (x_val (r_extract rfl rfl) rfl ?_)
    | refine x_op rfl (x_val (r_pick_t rfl rfl) rfl ?_)
    | refine x_op rfl (x_val (r_pick_f rfl rfl) rfl ?_)
    | refine x_op rfl (x_val (r_fieldAddr (by assumption) rfl) rfl ?_)
    | refine x_op rfl (x_val (by first | exact r_own_add (i := 0) (by assumption) rfl rfl rfl | exact r_own_add (i := 1) (by assumption) rfl rfl rfl | exact r_own_add (i := 2) (by assumption) rfl rfl rfl | exact r_own_add (i := 3) (by assumption) rfl rfl rfl | exact r_own_add (i := 4) (by assumption) rfl rfl rfl | exact r_own_add (i := 5) (by assumption) rfl rfl rfl | exact r_own (i := 0) (by assumption) rfl rfl rfl | exact r_own (i := 1) (by assumption) rfl rfl rfl | exact r_own (i := 2) (by assumption) rfl rfl rfl | exact r_own (i := 3) (by assumption) rfl rfl rfl | exact r_own (i := 4) (by assumption) rfl rfl rfl | exact r_own (i := 5) (by assumption) rfl rfl rfl) rfl ?_)
    | refine x_op rfl (x_val (r_len_string (by assumption) rfl) rfl ?_)
    | refine x_op rfl (x_val (r_len_slice (by assumption) rfl) rfl ?_)
    | refine x_op rfl (x_val (r_cap_slice (by assumption) rfl) rfl ?_)
    | refine x_op rfl (x_val (r_not rfl rfl) rfl ?_)
    | refine x_op rfl (x_val (r_add rfl rfl ⟨by omega, by omega⟩) rfl ?_)
    | refine x_op rfl (x_val (r_sub rfl rfl ⟨by omega, by omega⟩) rfl ?_)
    | refine x_op rfl (x_val (r_build (by assumption) (by assumption) rfl rfl) rfl ?_)
    | refine x_op rfl (x_val (r_nilCheck rfl) rfl ?_)
    | refine x_op rfl (x_val (r_lss (r := true) rfl rfl (decide_eq_true (by omega))) rfl ?_)
    | refine x_op rfl (x_val (r_lss (r := false) rfl rfl (decide_eq_false (by omega))) rfl ?_)
    | refine x_op rfl (x_val (r_leq (r := true) rfl rfl (decide_eq_true (by omega))) rfl ?_)
    | refine x_op rfl (x_val (r_leq (r := false) rfl rfl (decide_eq_false (by omega))) rfl ?_)
    | refine x_op rfl (x_val (r_gtr (r := true) rfl rfl (decide_eq_true (by omega))) rfl ?_)
    | refine x_op rfl (x_val (r_gtr (r := false) rfl rfl (decide_eq_false (by omega))) rfl ?_)
    | refine x_op rfl (x_val (r_geq (r := true) rfl rfl (decide_eq_true (by omega))) rfl ?_)
    | refine x_op rfl (x_val (r_geq (r := false) rfl rfl (decide_eq_false (by omega))) rfl ?_)
    | refine x_op rfl (x_val (r_eql (r := true) rfl rfl (decide_eq_true (by omega))) rfl ?_)
    | refine x_op rfl (x_val (r_eql (r := false) rfl rfl (decide_eq_false (by omega))) rfl ?_)
    | refine x_op rfl (x_val (r_neq (r := true) rfl rfl (decide_eq_true (by omega))) rfl ?_)
    | refine x_op rfl (x_val (r_neq (r := false) rfl rfl (decide_eq_false (by omega))) rfl ?_)
    | refine x_op rfl (x_val (by first | exact r_ownN (i := 0) (by assumption) rfl rfl rfl | exact r_ownN (i := 1) (by assumption) rfl rfl rfl | exact r_ownN (i := 2) (by assumption) rfl rfl rfl | exact r_ownN (i := 3) (by assumption) rfl rfl rfl | exact r_ownN (i := 4) (by assumption) rfl rfl rfl | exact r_ownN (i := 5) (by assumption) rfl rfl rfl) rfl ?_)
    | refine x_op rfl (s_store (i := 0) (by assumption) rfl rfl rfl rfl rfl rfl ?_)
    | refine x_op rfl (s_store (i := 1) (by assumption) rfl rfl rfl rfl rfl rfl ?_)
    | refine x_op rfl (s_store (i := 2) (by assumption) rfl rfl rfl rfl rfl rfl ?_)
    | refine x_op rfl (s_store (i := 3) (by assumption) rfl rfl rfl rfl rfl rfl ?_)
    | refine x_op rfl (s_store (i := 4) (by assumption) rfl rfl rfl rfl rfl rfl ?_)
    | refine x_op rfl (s_store (i := 5) (by assumption) rfl rfl rfl rfl rfl rfl ?_)
    | refine x_op rfl (s_box rfl rfl fun b hb => ?_) | refine x_op rfl (s_alloc (by assumption) rfl fun b hb => ?_))
    refine x_op rfl (x_val (r_neq_bool u4 rfl rfl rfl) rfl (x_bool (fun hb => ?_) (fun hb => ?_)))
    · have hne : br ≠ br2 := by intro h; rw [h] at hb; simp at hb
      repeat (first
    | refine x_seq ?_ | refine x_region ?_ | refine x_nil ?_ | refine x_block ?_ | refine x_skip ?_ | refine x_exit rfl ?_ | refine x_true rfl ?_ | refine x_false rfl ?_ | refine x_ret ?_ | refine x_tend ?_
    | refine x_off rfl rfl ?_ | refine x_off0 rfl ?_
    | refine x_op rfl (x_val (r_move rfl) rfl ?_)
    | refine x_op rfl (x_val (r_assign rfl) rfl ?_)
    | refine x_op rfl (x_val (r_extract rfl rfl) rfl ?_)
    | refine x_op rfl (x_val (r_pick_t rfl rfl) rfl ?_)
    | refine x_op rfl (x_val (r_pick_f rfl rfl) rfl ?_)
    | refine x_op rfl (x_val (r_fieldAddr (by assumption) rfl) rfl ?_)
    | refine x_op rfl (x_val (by first | exact r_own_add (i := 0) (by assumption) rfl rfl rfl | exact r_own_add (i := 1) (by assumption) rfl rfl rfl | exact r_own_add (i := 2) (by assumption) rfl rfl rfl | exact r_own_add (i := 3) (by assumption) rfl rfl rfl | exact r_own_add (i := 4) (by assumption) rfl rfl rfl | exact r_own_add (i := 5) (by assumption) rfl rfl rfl | exact r_own (i := 0) (by assumption) rfl rfl rfl | exact r_own (i := 1) (by assumption) rfl rfl rfl | exact r_own (i := 2) (by assumption) rfl rfl rfl | exact r_own (i := 3) (by assumption) rfl rfl rfl | exact r_own (i := 4) (by assumption) rfl rfl rfl | exact r_own (i := 5) (by assumption) rfl rfl rfl) rfl ?_)
    | refine x_op rfl (x_val (r_len_string (by assumption) rfl) rfl ?_)
    | refine x_op rfl (x_val (r_len_slice (by assumption) rfl) rfl ?_)
    | refine x_op rfl (x_val (r_cap_slice (by assumption) rfl) rfl ?_)
    | refine x_op rfl (x_val (r_not rfl rfl) rfl ?_)
    | refine x_op rfl (x_val (r_add rfl rfl ⟨by omega, by omega⟩) rfl ?_)
    | refine x_op rfl (x_val (r_sub rfl rfl ⟨by omega, by omega⟩) rfl ?_)
    | refine x_op rfl (x_val (r_build (by assumption) (by assumption) rfl rfl) rfl ?_)
    | refine x_op rfl (x_val (r_nilCheck rfl) rfl ?_)
    | refine x_op rfl (x_val (r_lss (r := true) rfl rfl (decide_eq_true (by omega))) rfl ?_)
    | refine x_op rfl (x_val (r_lss (r := false) rfl rfl (decide_eq_false (by omega))) rfl ?_)
    | refine x_op rfl (x_val (r_leq (r := true) rfl rfl (decide_eq_true (by omega))) rfl ?_)
    | refine x_op rfl (x_val (r_leq (r := false) rfl rfl (decide_eq_false (by omega))) rfl ?_)
    | refine x_op rfl (x_val (r_gtr (r := true) rfl rfl (decide_eq_true (by omega))) rfl ?_)
    | refine x_op rfl (x_val (r_gtr (r := false) rfl rfl (decide_eq_false (by omega))) rfl ?_)
    | refine x_op rfl (x_val (r_geq (r := true) rfl rfl (decide_eq_true (by omega))) rfl ?_)
    | refine x_op rfl (x_val (r_geq (r := false) rfl rfl (decide_eq_false (by omega))) rfl ?_)
    | refine x_op rfl (x_val (r_eql (r := true) rfl rfl (decide_eq_true (by omega))) rfl ?_)
    | refine x_op rfl (x_val (r_eql (r := false) rfl rfl (decide_eq_false (by omega))) rfl ?_)
    | refine x_op rfl (x_val (r_neq (r := true) rfl rfl (decide_eq_true (by omega))) rfl ?_)
    | refine x_op rfl (x_val (r_neq (r := false) rfl rfl (decide_eq_false (by omega))) rfl ?_)
    | refine x_op rfl (x_val (by first | exact r_ownN (i := 0) (by assumption) rfl rfl rfl | exact r_ownN (i := 1) (by assumption) rfl rfl rfl | exact r_ownN (i := 2) (by assumption) rfl rfl rfl | exact r_ownN (i := 3) (by assumption) rfl rfl rfl | exact r_ownN (i := 4) (by assumption) rfl rfl rfl | exact r_ownN (i := 5) (by assumption) rfl rfl rfl) rfl ?_)
    | refine x_op rfl (s_store (i := 0) (by assumption) rfl rfl rfl rfl rfl rfl ?_)
    | refine x_op rfl (s_store (i := 1) (by assumption) rfl rfl rfl rfl rfl rfl ?_)
    | refine x_op rfl (s_store (i := 2) (by assumption) rfl rfl rfl rfl rfl rfl ?_)
    | refine x_op rfl (s_store (i := 3) (by assumption) rfl rfl rfl rfl rfl rfl ?_)
    | refine x_op rfl (s_store (i := 4) (by assumption) rfl rfl rfl rfl rfl rfl ?_)
    | refine x_op rfl (s_store (i := 5) (by assumption) rfl rfl rfl rfl rfl rfl ?_)
    | refine x_op rfl (s_box rfl rfl fun b hb => ?_) | refine x_op rfl (s_alloc (by assumption) rfl fun b hb => ?_))
      exact x_rets (rs := []) (vs := []) rfl ⟨res_own (i := 0) (cs := [.bool false, .int .i64 0, .slice none 0 0]) rfl rfl z26 rfl, rfl, trivial⟩ fun w1 hO => herr w1 _ 1 hO (by rw [← hM]; simp [mergeF, hne])
    have heq : br2 = br := by cases br <;> cases br2 <;> simp at hb ⊢
    subst heq
    repeat (first
    | refine x_seq ?_ | refine x_region ?_ | refine x_nil ?_ | refine x_block ?_ | refine x_skip ?_ | refine x_exit rfl ?_ | refine x_true rfl ?_ | refine x_false rfl ?_ | refine x_ret ?_ | refine x_tend ?_
    | refine x_off rfl rfl ?_ | refine x_off0 rfl ?_
    | refine x_op rfl (x_val (r_move rfl) rfl ?_)
    | refine x_op rfl (x_val (r_assign rfl) rfl ?_)
    | refine x_op rfl (x_val (r_extract rfl rfl) rfl ?_)
    | refine x_op rfl (x_val (r_pick_t rfl rfl) rfl ?_)
    | refine x_op rfl (x_val (r_pick_f rfl rfl) rfl ?_)
    | refine x_op rfl (x_val (r_fieldAddr (by assumption) rfl) rfl ?_)
    | refine x_op rfl (x_val (by first | exact r_own_add (i := 0) (by assumption) rfl rfl rfl | exact r_own_add (i := 1) (by assumption) rfl rfl rfl | exact r_own_add (i := 2) (by assumption) rfl rfl rfl | exact r_own_add (i := 3) (by assumption) rfl rfl rfl | exact r_own_add (i := 4) (by assumption) rfl rfl rfl | exact r_own_add (i := 5) (by assumption) rfl rfl rfl | exact r_own (i := 0) (by assumption) rfl rfl rfl | exact r_own (i := 1) (by assumption) rfl rfl rfl | exact r_own (i := 2) (by assumption) rfl rfl rfl | exact r_own (i := 3) (by assumption) rfl rfl rfl | exact r_own (i := 4) (by assumption) rfl rfl rfl | exact r_own (i := 5) (by assumption) rfl rfl rfl) rfl ?_)
    | refine x_op rfl (x_val (r_len_string (by assumption) rfl) rfl ?_)
    | refine x_op rfl (x_val (r_len_slice (by assumption) rfl) rfl ?_)
    | refine x_op rfl (x_val (r_cap_slice (by assumption) rfl) rfl ?_)
    | refine x_op rfl (x_val (r_not rfl rfl) rfl ?_)
    | refine x_op rfl (x_val (r_add rfl rfl ⟨by omega, by omega⟩) rfl ?_)
    | refine x_op rfl (x_val (r_sub rfl rfl ⟨by omega, by omega⟩) rfl ?_)
    | refine x_op rfl (x_val (r_build (by assumption) (by assumption) rfl rfl) rfl ?_)
    | refine x_op rfl (x_val (r_nilCheck rfl) rfl ?_)
    | refine x_op rfl (x_val (r_lss (r := true) rfl rfl (decide_eq_true (by omega))) rfl ?_)
    | refine x_op rfl (x_val (r_lss (r := false) rfl rfl (decide_eq_false (by omega))) rfl ?_)
    | refine x_op rfl (x_val (r_leq (r := true) rfl rfl (decide_eq_true (by omega))) rfl ?_)
    | refine x_op rfl (x_val (r_leq (r := false) rfl rfl (decide_eq_false (by omega))) rfl ?_)
    | refine x_op rfl (x_val (r_gtr (r := true) rfl rfl (decide_eq_true (by omega))) rfl ?_)
    | refine x_op rfl (x_val (r_gtr (r := false) rfl rfl (decide_eq_false (by omega))) rfl ?_)
    | refine x_op rfl (x_val (r_geq (r := true) rfl rfl (decide_eq_true (by omega))) rfl ?_)
    | refine x_op rfl (x_val (r_geq (r := false) rfl rfl (decide_eq_false (by omega))) rfl ?_)
    | refine x_op rfl (x_val (r_eql (r := true) rfl rfl (decide_eq_true (by omega))) rfl ?_)
    | refine x_op rfl (x_val (r_eql (r := false) rfl rfl (decide_eq_false (by omega))) rfl ?_)
    | refine x_op rfl (x_val (r_neq (r := true) rfl rfl (decide_eq_true (by omega))) rfl ?_)
    | refine x_op rfl (x_val (r_neq (r := false) rfl rfl (decide_eq_false (by omega))) rfl ?_)
    | refine x_op rfl (x_val (by first | exact r_ownN (i := 0) (by assumption) rfl rfl rfl | exact r_ownN (i := 1) (by assumption) rfl rfl rfl | exact r_ownN (i := 2) (by assumption) rfl rfl rfl | exact r_ownN (i := 3) (by assumption) rfl rfl rfl | exact r_ownN (i := 4) (by assumption) rfl rfl rfl | exact r_ownN (i := 5) (by assumption) rfl rfl rfl) rfl ?_)
    | refine x_op rfl (s_store (i := 0) (by assumption) rfl rfl rfl rfl rfl rfl ?_)
    | refine x_op rfl (s_store (i := 1) (by assumption) rfl rfl rfl rfl rfl rfl ?_)
    | refine x_op rfl (s_store (i := 2) (by assumption) rfl rfl rfl rfl rfl rfl ?_)
    | refine x_op rfl (s_store (i := 3) (by assumption) rfl rfl rfl rfl rfl rfl ?_)
    | refine x_op rfl (s_store (i := 4) (by assumption) rfl rfl rfl rfl rfl rfl ?_)
    | refine x_op rfl (s_store (i := 5) (by assumption) rfl rfl rfl rfl rfl rfl ?_)
    | refine x_op rfl (s_box rfl rfl fun b hb => ?_) | refine x_op rfl (s_alloc (by assumption) rfl fun b hb => ?_))
    refine x_op rfl (s_call Ty.c11 rfl rfl (fun w hw => right_ br2 first A ps.length ca ps w (hw.rd0 ha) hsa) (fun wq v wq1 hw h => ?_)); obtain ⟨rfl, hO⟩ := h; refine ⟨_, hw.call0 hO, ?_⟩
    cases hR : rightB br2 first ps
    · repeat (first
    | refine x_seq ?_ | refine x_region ?_ | refine x_nil ?_ | refine x_block ?_ | refine x_skip ?_ | refine x_exit rfl ?_ | refine x_true rfl ?_ | refine x_false rfl ?_ | refine x_ret ?_ | refine x_tend ?_
    | refine x_off rfl rfl ?_ | refine x_off0 rfl ?_
    | refine x_op rfl (x_val (r_move rfl) rfl ?_)
    | refine x_op rfl (x_val (r_assign rfl) rfl ?_)
    | refine x_op rfl (x_val (r_extract rfl rfl) rfl ?_)
    | refine x_op rfl (x_val (r_pick_t rfl rfl) rfl ?_)
    | refine x_op rfl (x_val (r_pick_f rfl rfl) rfl ?_)
    | refine x_op rfl (x_val (r_fieldAddr (by assumption) rfl) rfl ?_)
    | refine x_op rfl (x_val (by first | exact r_own_add (i := 0) (by assumption) rfl rfl rfl | exact r_own_add (i := 1) (by assumption) rfl rfl rfl | exact r_own_add (i := 2) (by assumption) rfl rfl rfl | exact r_own_add (i := 3) (by assumption) rfl rfl rfl | exact r_own_add (i := 4) (by assumption) rfl rfl rfl | exact r_own_add (i := 5) (by assumption) rfl rfl rfl | exact r_own (i := 0) (by assumption) rfl rfl rfl | exact r_own (i := 1) (by assumption) rfl rfl rfl | exact r_own (i := 2) (by assumption) rfl rfl rfl | exact r_own (i := 3) (by assumption) rfl rfl rfl | exact r_own (i := 4) (by assumption) rfl rfl rfl | exact r_own (i := 5) (by assumption) rfl rfl rfl) rfl ?_)
    | refine x_op rfl (x_val (r_len_string (by assumption) rfl) rfl ?_)
    | refine x_op rfl (x_val (r_len_slice (by assumption) rfl) rfl ?_)
    | refine x_op rfl (x_val (r_cap_slice (by assumption) rfl) rfl ?_)
    | refine x_op rfl (x_val (r_not rfl rfl) rfl ?_)
    | refine x_op rfl (x_val (r_add rfl rfl ⟨by omega, by omega⟩) rfl ?_)
    | refine x_op rfl (x_val (r_sub rfl rfl ⟨by omega, by omega⟩) rfl ?_)
    | refine x_op rfl (x_val (r_build (by assumption) (by assumption) rfl rfl) rfl ?_)
    | refine x_op rfl (x_val (r_nilCheck rfl) rfl ?_)
    | refine x_op rfl (x_val (r_lss (r := true) rfl rfl (decide_eq_true (by omega))) rfl ?_)
    | refine x_op rfl (x_val (r_lss (r := false) rfl rfl (decide_eq_false (by omega))) rfl ?_)
    | refine x_op rfl (x_val (r_leq (r := true) rfl rfl (decide_eq_true (by omega))) rfl ?_)
    | refine x_op rfl (x_val (r_leq (r := false) rfl rfl (decide_eq_false (by omega))) rfl ?_)
    | refine x_op rfl (x_val (r_gtr (r := true) rfl rfl (decide_eq_true (by omega))) rfl ?_)
    | refine x_op rfl (x_val (r_gtr (r := false) rfl rfl (decide_eq_false (by omega))) rfl ?_)
    | refine x_op rfl (x_val (r_geq (r := true) rfl rfl (decide_eq_true (by omega))) rfl ?_)
    | refine x_op rfl (x_val (r_geq (r := false) rfl rfl (decide_eq_false (by omega))) rfl ?_)
    | refine x_op rfl (x_val (r_eql (r := true) rfl rfl (decide_eq_true (by omega))) rfl ?_)
    | refine x_op rfl (x_val (r_eql (r := false) rfl rfl (decide_eq_false (by omega))) rfl ?_)
    | refine x_op rfl (x_val (r_neq (r := true) rfl rfl (decide_eq_true (by omega))) rfl ?_)
    | refine x_op rfl (x_val (r_neq (r := false) rfl rfl (decide_eq_false (by omega))) rfl ?_)
    | refine x_op rfl (x_val (by first | exact r_ownN (i := 0) (by assumption) rfl rfl rfl | exact r_ownN (i := 1) (by assumption) rfl rfl rfl | exact r_ownN (i := 2) (by assumption) rfl rfl rfl | exact r_ownN (i := 3) (by assumption) rfl rfl rfl | exact r_ownN (i := 4) (by assumption) rfl rfl rfl | exact r_ownN (i := 5) (by assumption) rfl rfl rfl) rfl ?_)
    | refine x_op rfl (s_store (i := 0) (by assumption) rfl rfl rfl rfl rfl rfl ?_)
    | refine x_op rfl (s_store (i := 1) (by assumption) rfl rfl rfl rfl rfl rfl ?_)
    | refine x_op rfl (s_store (i := 2) (by assumption) rfl rfl rfl rfl rfl rfl ?_)
    | refine x_op rfl (s_store (i := 3) (by assumption) rfl rfl rfl rfl rfl rfl ?_)
    | refine x_op rfl (s_store (i := 4) (by assumption) rfl rfl rfl rfl rfl rfl ?_)
    | refine x_op rfl (s_store (i := 5) (by assumption) rfl rfl rfl rfl rfl rfl ?_)
    | refine x_op rfl (s_box rfl rfl fun b hb => ?_) | refine x_op rfl (s_alloc (by assumption) rfl fun b hb => ?_))
      exact x_rets (rs := []) (vs := []) rfl ⟨res_own (i := 0) (cs := [.bool false, .int .i64 0, .slice none 0 0]) rfl rfl z26 rfl, rfl, trivial⟩ fun w1 hO => herr w1 _ 2 hO (by rw [← hM]; simp [mergeF, Nd.right, hR])
    repeat (first
    | refine x_seq ?_ | refine x_region ?_ | refine x_nil ?_ | refine x_block ?_ | refine x_skip ?_ | refine x_exit rfl ?_ | refine x_true rfl ?_ | refine x_false rfl ?_ | refine x_ret ?_ | refine x_tend ?_
    | refine x_off rfl rfl ?_ | refine x_off0 rfl ?_
    | refine x_op rfl (x_val (r_move rfl) rfl ?_)
    | refine x_op rfl (x_val (r_assign rfl) rfl ?_)
    | refine x_op rfl (x_val (r_extract rfl rfl) rfl ?_)
    | refine x_op rfl (x_val (r_pick_t rfl rfl) rfl ?_)
    | refine x_op rfl (x_val (r_pick_f rfl rfl) rfl ?_)
    | refine x_op rfl (x_val (r_fieldAddr (by assumption) rfl) rfl ?_)
    | refine x_op rfl (x_val (by first | exact r_own_add (i := 0) (by assumption) rfl rfl rfl | exact r_own_add (i := 1) (by assumption) rfl rfl rfl | exact r_own_add (i := 2) (by assumption) rfl rfl rfl | exact r_own_add (i := 3) (by assumption) rfl rfl rfl | exact r_own_add (i := 4) (by assumption) rfl rfl rfl | exact r_own_add (i := 5) (by assumption) rfl rfl rfl | exact r_own (i := 0) (by assumption) rfl rfl rfl | exact r_own (i := 1) (by assumption) rfl rfl rfl | exact r_own (i := 2) (by assumption) rfl rfl rfl | exact r_own (i := 3) (by assumption) rfl rfl rfl | exact r_own (i := 4) (by assumption) rfl rfl rfl | exact r_own (i := 5) (by assumption) rfl rfl rfl) rfl ?_)
    | refine x_op rfl (x_val (r_len_string (by assumption) rfl) rfl ?_)
    | refine x_op rfl (x_val (r_len_slice (by assumption) rfl) rfl ?_)
    | refine x_op rfl (x_val (r_cap_slice (by assumption) rfl) rfl ?_)
    | refine x_op rfl (x_val (r_not rfl rfl) rfl ?_)
    | refine x_op rfl (x_val (r_add rfl rfl ⟨by omega, by omega⟩) rfl ?_)
    | refine x_op rfl (x_val (r_sub rfl rfl ⟨by omega, by omega⟩) rfl ?_)
    | refine x_op rfl (x_val (r_build (by assumption) (by assumption) rfl rfl) rfl ?_)
    | refine x_op rfl (x_val (r_nilCheck rfl) rfl ?_)
    | refine x_op rfl (x_val (r_lss (r := true) rfl rfl (decide_eq_true (by omega))) rfl ?_)
    | refine x_op rfl (x_val (r_lss (r := false) rfl rfl (decide_eq_false (by omega))) rfl ?_)
    | refine x_op rfl (x_val (r_leq (r := true) rfl rfl (decide_eq_true (by omega))) rfl ?_)
    | refine x_op rfl (x_val (r_leq (r := false) rfl rfl (decide_eq_false (by omega))) rfl ?_)
    | refine x_op rfl (x_val (r_gtr (r := true) rfl rfl (decide_eq_true (by omega))) rfl ?_)
    | refine x_op rfl (x_val (r_gtr (r := false) rfl rfl (decide_eq_false (by omega))) rfl ?_)
    | refine x_op rfl (x_val (r_geq (r := true) rfl rfl (decide_eq_true (by omega))) rfl ?_)
    | refine x_op rfl (x_val (r_geq (r := false) rfl rfl (decide_eq_false (by omega))) rfl ?_)
    | refine x_op rfl (x_val (r_eql (r := true) rfl rfl (decide_eq_true (by omega))) rfl ?_)
    | refine x_op rfl (x_val (r_eql (r := false) rfl rfl (decide_eq_false (by omega))) rfl ?_)
    | refine x_op rfl (x_val (r_neq (r := true) rfl rfl (decide_eq_true (by omega))) rfl ?_)
    | refine x_op rfl (x_val (r_neq (r := false) rfl rfl (decide_eq_false (by omega))) rfl ?_)
    | refine x_op rfl (x_val (by first | exact r_ownN (i := 0) (by assumption) rfl rfl rfl | exact r_ownN (i := 1) (by assumption) rfl rfl rfl | exact r_ownN (i := 2) (by assumption) rfl rfl rfl | exact r_ownN (i := 3) (by assumption) rfl rfl rfl | exact r_ownN (i := 4) (by assumption) rfl rfl rfl | exact r_ownN (i := 5) (by assumption) rfl rfl rfl) rfl ?_)
    | refine x_op rfl (s_store (i := 0) (by assumption) rfl rfl rfl rfl rfl rfl ?_)
    | refine x_op rfl (s_store (i := 1) (by assumption) rfl rfl rfl rfl rfl rfl ?_)
    | refine x_op rfl (s_store (i := 2) (by assumption) rfl rfl rfl rfl rfl rfl ?_)
    | refine x_op rfl (s_store (i := 3) (by assumption) rfl rfl rfl rfl rfl rfl ?_)
    | refine x_op rfl (s_store (i := 4) (by assumption) rfl rfl rfl rfl rfl rfl ?_)
    | refine x_op rfl (s_store (i := 5) (by assumption) rfl rfl rfl rfl rfl rfl ?_)
    | refine x_op rfl (s_box rfl rfl fun b hb => ?_) | refine x_op rfl (s_alloc (by assumption) rfl fun b hb => ?_))
    refine x_op rfl (s_call Ty.c11 rfl rfl (fun w hw => right_ br2 first2 B qs.length cb qs w (hw.rd0 hB) hsb) (fun wq v wq1 hw h => ?_)); obtain ⟨rfl, hO⟩ := h; refine ⟨_, hw.call0 hO, ?_⟩
    cases hR2 : rightB br2 first2 qs
    · repeat (first
    | refine x_seq ?_ | refine x_region ?_ | refine x_nil ?_ | refine x_block ?_ | refine x_skip ?_ | refine x_exit rfl ?_ | refine x_true rfl ?_ | refine x_false rfl ?_ | refine x_ret ?_ | refine x_tend ?_
    | refine x_off rfl rfl ?_ | refine x_off0 rfl ?_
    | refine x_op rfl (x_val (r_move rfl) rfl ?_)
    | refine x_op rfl (x_val (r_assign rfl) rfl ?_)
    | refine x_op rfl (x_val (r_extract rfl rfl) rfl ?_)
    | refine x_op rfl (x_val (r_pick_t rfl rfl) rfl ?_)
    | refine x_op rfl (x_val (r_pick_f rfl rfl) rfl ?_)
    | refine x_op rfl (x_val (r_fieldAddr (by assumption) rfl) rfl ?_)
    | refine x_op rfl (x_val (by first | exact r_own_add (i := 0) (by assumption) rfl rfl rfl | exact r_own_add (i := 1) (by assumption) rfl rfl rfl | exact r_own_add (i := 2) (by assumption) rfl rfl rfl | exact r_own_add (i := 3) (by assumption) rfl rfl rfl | exact r_own_add (i := 4) (by assumption) rfl rfl rfl | exact r_own_add (i := 5) (by assumption) rfl rfl rfl | exact r_own (i := 0) (by assumption) rfl rfl rfl | exact r_own (i := 1) (by assumption) rfl rfl rfl | exact r_own (i := 2) (by assumption) rfl rfl rfl | exact r_own (i := 3) (by assumption) rfl rfl rfl | exact r_own (i := 4) (by assumption) rfl rfl rfl | exact r_own (i := 5) (by assumption) rfl rfl rfl) rfl ?_)
    | refine x_op rfl (x_val (r_len_string (by assumption) rfl) rfl ?_)
    | refine x_op rfl (x_val (r_len_slice (by assumption) rfl) rfl ?_)
    | refine x_op rfl (x_val (r_cap_slice (by assumption) rfl) rfl ?_)
    | refine x_op rfl (x_val (r_not rfl rfl) rfl ?_)
    | refine x_op rfl (x_val (r_add rfl rfl ⟨by omega, by omega⟩) rfl ?_)
    | refine x_op rfl (x_val (r_sub rfl rfl ⟨by omega, by omega⟩) rfl ?_)
    | refine x_op rfl (x_val (r_build (by assumption) (by assumption) rfl rfl) rfl ?_)
    | refine x_op rfl (x_val (r_nilCheck rfl) rfl ?_)
    | refine x_op rfl (x_val (r_lss (r := true) rfl rfl (decide_eq_true (by omega))) rfl ?_)
    | refine x_op rfl (x_val (r_lss (r := false) rfl rfl (decide_eq_false (by omega))) rfl ?_)
    | refine x_op rfl (x_val (r_leq (r := true) rfl rfl (decide_eq_true (by omega))) rfl ?_)
    | refine x_op rfl (x_val (r_leq (r := false) rfl rfl (decide_eq_false (by omega))) rfl ?_)
    | refine x_op rfl (x_val (r_gtr (r := true) rfl rfl (decide_eq_true (by omega))) rfl ?_)
    | refine x_op rfl (x_val (r_gtr (r := false) rfl rfl (decide_eq_false (by omega))) rfl ?_)
    | refine x_op rfl (x_val (r_geq (r := true) rfl rfl (decide_eq_true (by omega))) rfl ?_)
    | refine x_op rfl (x_val (r_geq (r := false) rfl rfl (decide_eq_false (by omega))) rfl ?_)
    | refine x_op rfl (x_val (r_eql (r := true) rfl rfl (decide_eq_true (by omega))) rfl ?_)
    | refine x_op rfl (x_val (r_eql (r := false) rfl rfl (decide_eq_false (by omega))) rfl ?_)
    | refine x_op rfl (x_val (r_neq (r := true) rfl rfl (decide_eq_true (by omega))) rfl ?_)
    | refine x_op rfl (x_val (r_neq (r := false) rfl rfl (decide_eq_false (by omega))) rfl ?_)
    | refine x_op rfl (x_val (by first | exact r_ownN (i := 0) (by assumption) rfl rfl rfl | exact r_ownN (i := 1) (by assumption) rfl rfl rfl | exact r_ownN (i := 2) (by assumption) rfl rfl rfl | exact r_ownN (i := 3) (by assumption) rfl rfl rfl | exact r_ownN (i := 4) (by assumption) rfl rfl rfl | exact r_ownN (i := 5) (by assumption) rfl rfl rfl) rfl ?_)
    | refine x_op rfl (s_store (i := 0) (by assumption) rfl rfl rfl rfl rfl rfl ?_)
    | refine x_op rfl (s_store (i := 1) (by assumption) rfl rfl rfl rfl rfl rfl ?_)
    | refine x_op rfl (s_store (i := 2) (by assumption) rfl rfl rfl rfl rfl rfl ?_)
    | refine x_op rfl (s_store (i := 3) (by assumption) rfl rfl rfl rfl rfl rfl ?_)
    | refine x_op rfl (s_store (i := 4) (by assumption) rfl rfl rfl rfl rfl rfl ?_)
    | refine x_op rfl (s_store (i := 5) (by assumption) rfl rfl rfl rfl rfl rfl ?_)
    | refine x_op rfl (s_box rfl rfl fun b hb => ?_) | refine x_op rfl (s_alloc (by assumption) rfl fun b hb => ?_))
      exact x_rets (rs := []) (vs := []) rfl ⟨res_own (i := 0) (cs := [.bool false, .int .i64 0, .slice none 0 0]) rfl rfl z26 rfl, rfl, trivial⟩ fun w1 hO => herr w1 _ 2 hO (by rw [← hM]; simp [mergeF, Nd.right, hR, hR2])
    · repeat (first
    | refine x_seq ?_ | refine x_region ?_ | refine x_nil ?_ | refine x_block ?_ | refine x_skip ?_ | refine x_exit rfl ?_ | refine x_true rfl ?_ | refine x_false rfl ?_ | refine x_ret ?_ | refine x_tend ?_
    | refine x_off rfl rfl ?_ | refine x_off0 rfl ?_
    | refine x_op rfl (x_val (r_move rfl) rfl ?_)
    | refine x_op rfl (x_val (r_assign rfl) rfl ?_)
    | refine x_op rfl (x_val (r_extract rfl rfl) rfl ?_)
    | refine x_op rfl (x_val (r_pick_t rfl rfl) rfl ?_)
    | refine x_op rfl (x_val (r_pick_f rfl rfl) rfl ?_)
    | refine x_op rfl (x_val (r_fieldAddr (by assumption) rfl) rfl ?_)
    | refine x_op rfl (x_val (by first | exact r_own_add (i := 0) (by assumption) rfl rfl rfl | exact r_own_add (i := 1) (by assumption) rfl rfl rfl | exact r_own_add (i := 2) (by assumption) rfl rfl rfl | exact r_own_add (i := 3) (by assumption) rfl rfl rfl | exact r_own_add (i := 4) (by assumption) rfl rfl rfl | exact r_own_add (i := 5) (by assumption) rfl rfl rfl | exact r_own (i := 0) (by assumption) rfl rfl rfl | exact r_own (i := 1) (by assumption) rfl rfl rfl | exact r_own (i := 2) (by assumption) rfl rfl rfl | exact r_own (i := 3) (by assumption) rfl rfl rfl | exact r_own (i := 4) (by assumption) rfl rfl rfl | exact r_own (i := 5) (by assumption) rfl rfl rfl) rfl ?_)
    | refine x_op rfl (x_val (r_len_string (by assumption) rfl) rfl ?_)
    | refine x_op rfl (x_val (r_len_slice (by assumption) rfl) rfl ?_)
    | refine x_op rfl (x_val (r_cap_slice (by assumption) rfl) rfl ?_)
    | refine x_op rfl (x_val (r_not rfl rfl) rfl ?_)
    | refine x_op rfl (x_val (r_add rfl rfl ⟨by omega, by omega⟩) rfl ?_)
    | refine x_op rfl (x_val (r_sub rfl rfl ⟨by omega, by omega⟩) rfl ?_)
    | refine x_op rfl (x_val (r_build (by assumption) (by assumption) rfl rfl) rfl ?_)
    | refine x_op rfl (x_val (r_nilCheck rfl) rfl ?_)
    | refine x_op rfl (x_val (r_lss (r := true) rfl rfl (decide_eq_true (by omega))) rfl ?_)
    | refine x_op rfl (x_val (r_lss (r := false) rfl rfl (decide_eq_false (by omega))) rfl ?_)
    | refine x_op rfl (x_val (r_leq (r := true) rfl rfl (decide_eq_true (by omega))) rfl ?_)
    | refine x_op rfl (x_val (r_leq (r := false) rfl rfl (decide_eq_false (by omega))) rfl ?_)
    | refine x_op rfl (x_val (r_gtr (r := true) rfl rfl (decide_eq_true (by omega))) rfl ?_)
    | refine x_op rfl (x_val (r_gtr (r := false) rfl rfl (decide_eq_false (by omega))) rfl ?_)
    | refine x_op rfl (x_val (r_geq (r := true) rfl rfl (decide_eq_true (by omega))) rfl ?_)
    | refine x_op rfl (x_val (r_geq (r := false) rfl rfl (decide_eq_false (by omega))) rfl ?_)
    | refine x_op rfl (x_val (r_eql (r := true) rfl rfl (decide_eq_true (by omega))) rfl ?_)
    | refine x_op rfl (x_val (r_eql (r := false) rfl rfl (decide_eq_false (by omega))) rfl ?_)
    | refine x_op rfl (x_val (r_neq (r := true) rfl rfl (decide_eq_true (by omega))) rfl ?_)
    | refine x_op rfl (x_val (r_neq (r := false) rfl rfl (decide_eq_false (by omega))) rfl ?_)
    | refine x_op rfl (x_val (by first | exact r_ownN (i := 0) (by assumption) rfl rfl rfl | exact r_ownN (i := 1) (by assumption) rfl rfl rfl | exact r_ownN (i := 2) (by assumption) rfl rfl rfl | exact r_ownN (i := 3) (by assumption) rfl rfl rfl | exact r_ownN (i := 4) (by assumption) rfl rfl rfl | exact r_ownN (i := 5) (by assumption) rfl rfl rfl) rfl ?_)
    | refine x_op rfl (s_store (i := 0) (by assumption) rfl rfl rfl rfl rfl rfl ?_)
    | refine x_op rfl (s_store (i := 1) (by assumption) rfl rfl rfl rfl rfl rfl ?_)
    | refine x_op rfl (s_store (i := 2) (by assumption) rfl rfl rfl rfl rfl rfl ?_)
    | refine x_op rfl (s_store (i := 3) (by assumption) rfl rfl rfl rfl rfl rfl ?_)
    | refine x_op rfl (s_store (i := 4) (by assumption) rfl rfl rfl rfl rfl rfl ?_)
    | refine x_op rfl (s_store (i := 5) (by assumption) rfl rfl rfl rfl rfl rfl ?_)
    | refine x_op rfl (s_box rfl rfl fun b hb => ?_) | refine x_op rfl (s_alloc (by assumption) rfl fun b hb => ?_))
      exact x_there ⟨_, _, _⟩ ⟨rfl, rfl, rfl, rfl, trivial⟩ (fun _ h => h) ⟨rfl, hR, hR2⟩
  rintro ⟨b3, b5, b6⟩ ⟨heq, hN, hN2⟩
  subst heq
  simp only []
  have hps := right_spec hN
  have hqs := right_spec hN2
  simp only [] at hps hqs
  -- the first node's copy
  refine x_cut (σ := Option Addr × Nat × Nat) (fun s => [(1, .string key), (3, .pointer (some ⟨b3, 0, none⟩)), (5, .pointer (some ⟨b5, 0, none⟩)), (6, .pointer (some ⟨b6, 0, none⟩)), (8, .pointer (some ⟨s.2.2, 0, none⟩))]) (fun s => [bl s.2.2 26 #[.bool br2, .int .i64 first, .slice s.1 ps.length s.2.1], sl s.1 s.2.1 36 2 (fl ps), bl b6 26 #[.bool false, .int .i64 0, .slice none 0 0], bl b5 26 #[.bool br2, .int .i64 first2, .slice B qs.length cb], bl b3 26 #[.bool br2, .int .i64 first, .slice A ps.length ca]])
    (fun s => SlOk s.1 ps.length s.2.1 2 (fl ps)) ?_ ?_
  · refine x_text (by kernel_rfl) ?_
    repeat (first
    | refine x_tend ?_ | refine x_tkoff rfl rfl (fun _ h => h) ?_
    | refine x_tk rfl (r_move rfl) rfl (fun _ h => h) ?_
    | refine x_tk rfl (r_assign rfl) rfl (fun _ h => h) ?_
    | refine x_tk rfl (r_extract rfl rfl) rfl (fun _ h => h) ?_
    | refine x_tk rfl (r_pick_t rfl rfl) rfl (fun _ h => h) ?_
    | refine x_tk rfl (r_pick_f rfl rfl) rfl (fun _ h => h) ?_
    | refine x_tk rfl (r_fieldAddr (by assumption) rfl) rfl (fun _ h => h) ?_
    | refine x_tk rfl (by first | exact r_own_add (i := 0) (by assumption) rfl rfl rfl | exact r_own_add (i := 1) (by assumption) rfl rfl rfl | exact r_own_add (i := 2) (by assumption) rfl rfl rfl | exact r_own_add (i := 3) (by assumption) rfl rfl rfl | exact r_own_add (i := 4) (by assumption) rfl rfl rfl | exact r_own_add (i := 5) (by assumption) rfl rfl rfl | exact r_own (i := 0) (by assumption) rfl rfl rfl | exact r_own (i := 1) (by assumption) rfl rfl rfl | exact r_own (i := 2) (by assumption) rfl rfl rfl | exact r_own (i := 3) (by assumption) rfl rfl rfl | exact r_own (i := 4) (by assumption) rfl rfl rfl | exact r_own (i := 5) (by assumption) rfl rfl rfl) rfl (fun _ h => h) ?_
    | refine x_tk rfl (r_len_string (by assumption) rfl) rfl (fun _ h => h) ?_
    | refine x_tk rfl (r_len_slice (by assumption) rfl) rfl (fun _ h => h) ?_
    | refine x_tk rfl (r_cap_slice (by assumption) rfl) rfl (fun _ h => h) ?_
    | refine x_tk rfl (r_not rfl rfl) rfl (fun _ h => h) ?_
    | refine x_tk rfl (r_add rfl rfl ⟨by omega, by omega⟩) rfl (fun _ h => h) ?_
    | refine x_tk rfl (r_sub rfl rfl ⟨by omega, by omega⟩) rfl (fun _ h => h) ?_
    | refine x_tk rfl (r_build (by assumption) (by assumption) rfl rfl) rfl (fun _ h => h) ?_
    | refine x_tk rfl (r_nilCheck rfl) rfl (fun _ h => h) ?_
    | refine x_tk rfl (r_lss (r := true) rfl rfl (decide_eq_true (by omega))) rfl (fun _ h => h) ?_
    | refine x_tk rfl (r_lss (r := false) rfl rfl (decide_eq_false (by omega))) rfl (fun _ h => h) ?_
    | refine x_tk rfl (r_leq (r := true) rfl rfl (decide_eq_true (by omega))) rfl (fun _ h => h) ?_
    | refine x_tk rfl (r_leq (r := false) rfl rfl (decide_eq_false (by omega))) rfl (fun _ h => h) ?_
    | refine x_tk rfl (r_gtr (r := true) rfl rfl (decide_eq_true (by omega))) rfl (fun _ h => h) ?_
    | refine x_tk rfl (r_gtr (r := false) rfl rfl (decide_eq_false (by omega))) rfl (fun _ h => h) ?_
    | refine x_tk rfl (r_geq (r := true) rfl rfl (decide_eq_true (by omega))) rfl (fun _ h => h) ?_
    | refine x_tk rfl (r_geq (r := false) rfl rfl (decide_eq_false (by omega))) rfl (fun _ h => h) ?_
    | refine x_tk rfl (r_eql (r := true) rfl rfl (decide_eq_true (by omega))) rfl (fun _ h => h) ?_
    | refine x_tk rfl (r_eql (r := false) rfl rfl (decide_eq_false (by omega))) rfl (fun _ h => h) ?_
    | refine x_tk rfl (r_neq (r := true) rfl rfl (decide_eq_true (by omega))) rfl (fun _ h => h) ?_
    | refine x_tk rfl (r_neq (r := false) rfl rfl (decide_eq_false (by omega))) rfl (fun _ h => h) ?_
    | refine x_tk rfl (by first | exact r_ownN (i := 0) (by assumption) rfl rfl rfl | exact r_ownN (i := 1) (by assumption) rfl rfl rfl | exact r_ownN (i := 2) (by assumption) rfl rfl rfl | exact r_ownN (i := 3) (by assumption) rfl rfl rfl | exact r_ownN (i := 4) (by assumption) rfl rfl rfl | exact r_ownN (i := 5) (by assumption) rfl rfl rfl) rfl (fun _ h => h) ?_)
    refine x_tany ?_
    refine x_all [6, 8] (by kernel_rfl) ⟨?_, ?_, trivial⟩
    · refine x_do rfl rfl (s_call Ty.c14 rfl rfl (fun w hw => Clone_ A ps.length ca ps w (hw.rd0 ha) (by omega)) (fun wq v wq1 hw h => ?_))
      obtain ⟨A', c', rfl, hok, hO⟩ := h
      refine ⟨_, hw.call0 hO, x_and (fun _ h => h.tail_) ?_⟩
      refine x_take 7 rfl (by kernel_rfl) rfl (r_build i26 p26 rfl rfl) rfl (fun _ h => h.tail_) ?_
      refine x_all [8] (by kernel_rfl) ⟨x_do rfl rfl (s_alloc i26 rfl fun b hb => x_and (fun _ h => h.tail_.tail_) ?_), trivial⟩
      refine x_all [9] (by kernel_rfl) ⟨x_do rfl rfl (s_store (i := 0) z26 rfl rfl rfl rfl rfl rfl (x_and (fun _ h => h.tail_.tail_) ?_)), trivial⟩
      refine x_done (by kernel_rfl) ?_
      exact x_there (A', c', b) ⟨rfl, rfl, rfl, rfl, rfl, trivial⟩ (fun _ h => h) hok
    · refine x_do rfl rfl (s_alloc i26 rfl fun b hb => x_and (fun _ h => h.tail_) ?_)
      refine x_all [6] (by kernel_rfl) ⟨?_, trivial⟩
      refine x_do rfl rfl (s_call Ty.c14 rfl rfl (fun w hw => Clone_ A ps.length ca ps w (hw.rd0 ha) (by omega)) (fun wq v wq1 hw h => ?_))
      obtain ⟨A', c', rfl, hok, hO⟩ := h
      refine ⟨_, hw.call0 hO, x_and (fun _ h => h.tail_.tail_) ?_⟩
      refine x_take 7 rfl (by kernel_rfl) rfl (r_build i26 p26 rfl rfl) rfl (fun _ h => h.tail_.tail_) ?_
      refine x_all [9] (by kernel_rfl) ⟨x_do rfl rfl (s_store (i := 1) z26 rfl rfl rfl rfl rfl rfl (x_and (fun _ h => h.tail_.tail_) ?_)), trivial⟩
      refine x_done (by kernel_rfl) ?_
      exact x_there (A', c', b) ⟨rfl, rfl, rfl, rfl, rfl, trivial⟩ (fun _ h => h.pick_ [1, 0, 2, 3, 4] (by decide)) hok
  rintro ⟨A1, c1, b8⟩ hok1
  simp only [] at hok1 ⊢
  -- the key between
  refine x_cut (σ := Option Addr × Nat) (fun s => [(5, .pointer (some ⟨b5, 0, none⟩)), (6, .pointer (some ⟨b6, 0, none⟩)), (8, .pointer (some ⟨b8, 0, none⟩))])
    (fun s => [bl b8 26 #[.bool br2, .int .i64 first, .slice s.1 (ps ++ if br2 then [(key, four4 first2)] else []).length s.2], sl s.1 s.2 36 2 (fl (ps ++ if br2 then [(key, four4 first2)] else [])), bl b6 26 #[.bool false, .int .i64 0, .slice none 0 0], bl b5 26 #[.bool br2, .int .i64 first2, .slice B qs.length cb]])
    (fun s => SlOk s.1 (ps ++ if br2 then [(key, four4 first2)] else []).length s.2 2 (fl (ps ++ if br2 then [(key, four4 first2)] else []))) ?_ ?_
  · refine x_seq ?_
    repeat (first
    | refine x_region ?_ | refine x_nil ?_ | refine x_tend ?_
    | refine x_off rfl rfl ?_ | refine x_off0 rfl ?_
    | refine x_op rfl (x_val (r_move rfl) rfl ?_)
    | refine x_op rfl (x_val (r_assign rfl) rfl ?_)
    | refine x_op rfl (x_val (r_extract rfl rfl) rfl ?_)
    | refine x_op rfl (x_val (r_pick_t rfl rfl) rfl ?_)
    | refine x_op rfl (x_val (r_pick_f rfl rfl) rfl ?_)
    | refine x_op rfl (x_val (r_fieldAddr (by assumption) rfl) rfl ?_)
    | refine x_op rfl (x_val (by first | exact r_own_add (i := 0) (by assumption) rfl rfl rfl | exact r_own_add (i := 1) (by assumption) rfl rfl rfl | exact r_own_add (i := 2) (by assumption) rfl rfl rfl | exact r_own_add (i := 3) (by assumption) rfl rfl rfl | exact r_own_add (i := 4) (by assumption) rfl rfl rfl | exact r_own_add (i := 5) (by assumption) rfl rfl rfl | exact r_own (i := 0) (by assumption) rfl rfl rfl | exact r_own (i := 1) (by assumption) rfl rfl rfl | exact r_own (i := 2) (by assumption) rfl rfl rfl | exact r_own (i := 3) (by assumption) rfl rfl rfl | exact r_own (i := 4) (by assumption) rfl rfl rfl | exact r_own (i := 5) (by assumption) rfl rfl rfl) rfl ?_)
    | refine x_op rfl (x_val (r_len_string (by assumption) rfl) rfl ?_)
    | refine x_op rfl (x_val (r_len_slice (by assumption) rfl) rfl ?_)
    | refine x_op rfl (x_val (r_cap_slice (by assumption) rfl) rfl ?_)
    | refine x_op rfl (x_val (r_not rfl rfl) rfl ?_)
    | refine x_op rfl (x_val (r_add rfl rfl ⟨by omega, by omega⟩) rfl ?_)
    | refine x_op rfl (x_val (r_sub rfl rfl ⟨by omega, by omega⟩) rfl ?_)
    | refine x_op rfl (x_val (r_build (by assumption) (by assumption) rfl rfl) rfl ?_)
    | refine x_op rfl (x_val (r_nilCheck rfl) rfl ?_)
    | refine x_op rfl (x_val (r_lss (r := true) rfl rfl (decide_eq_true (by omega))) rfl ?_)
    | refine x_op rfl (x_val (r_lss (r := false) rfl rfl (decide_eq_false (by omega))) rfl ?_)
    | refine x_op rfl (x_val (r_leq (r := true) rfl rfl (decide_eq_true (by omega))) rfl ?_)
    | refine x_op rfl (x_val (r_leq (r := false) rfl rfl (decide_eq_false (by omega))) rfl ?_)
    | refine x_op rfl (x_val (r_gtr (r := true) rfl rfl (decide_eq_true (by omega))) rfl ?_)
    | refine x_op rfl (x_val (r_gtr (r := false) rfl rfl (decide_eq_false (by omega))) rfl ?_)
    | refine x_op rfl (x_val (r_geq (r := true) rfl rfl (decide_eq_true (by omega))) rfl ?_)
    | refine x_op rfl (x_val (r_geq (r := false) rfl rfl (decide_eq_false (by omega))) rfl ?_)
    | refine x_op rfl (x_val (r_eql (r := true) rfl rfl (decide_eq_true (by omega))) rfl ?_)
    | refine x_op rfl (x_val (r_eql (r := false) rfl rfl (decide_eq_false (by omega))) rfl ?_)
    | refine x_op rfl (x_val (r_neq (r := true) rfl rfl (decide_eq_true (by omega))) rfl ?_)
    | refine x_op rfl (x_val (r_neq (r := false) rfl rfl (decide_eq_false (by omega))) rfl ?_)
    | refine x_op rfl (x_val (by first | exact r_ownN (i := 0) (by assumption) rfl rfl rfl | exact r_ownN (i := 1) (by assumption) rfl rfl rfl | exact r_ownN (i := 2) (by assumption) rfl rfl rfl | exact r_ownN (i := 3) (by assumption) rfl rfl rfl | exact r_ownN (i := 4) (by assumption) rfl rfl rfl | exact r_ownN (i := 5) (by assumption) rfl rfl rfl) rfl ?_)
    | refine x_op rfl (s_store (i := 0) (by assumption) rfl rfl rfl rfl rfl rfl ?_)
    | refine x_op rfl (s_store (i := 1) (by assumption) rfl rfl rfl rfl rfl rfl ?_)
    | refine x_op rfl (s_store (i := 2) (by assumption) rfl rfl rfl rfl rfl rfl ?_)
    | refine x_op rfl (s_store (i := 3) (by assumption) rfl rfl rfl rfl rfl rfl ?_)
    | refine x_op rfl (s_store (i := 4) (by assumption) rfl rfl rfl rfl rfl rfl ?_)
    | refine x_op rfl (s_store (i := 5) (by assumption) rfl rfl rfl rfl rfl rfl ?_)
    | refine x_op rfl (s_box rfl rfl fun b hb => ?_) | refine x_op rfl (s_alloc (by assumption) rfl fun b hb => ?_))
    cases br2
    · repeat (first
    | refine x_seq ?_ | refine x_region ?_ | refine x_nil ?_ | refine x_block ?_ | refine x_skip ?_ | refine x_exit rfl ?_ | refine x_true rfl ?_ | refine x_false rfl ?_ | refine x_ret ?_ | refine x_tend ?_
    | refine x_off rfl rfl ?_ | refine x_off0 rfl ?_
    | refine x_op rfl (x_val (r_move rfl) rfl ?_)
    | refine x_op rfl (x_val (r_assign rfl) rfl ?_)
    | refine x_op rfl (x_val (r_extract rfl rfl) rfl ?_)
    | refine x_op rfl (x_val (r_pick_t rfl rfl) rfl ?_)
    | refine x_op rfl (x_val (r_pick_f rfl rfl) rfl ?_)
    | refine x_op rfl (x_val (r_fieldAddr (by assumption) rfl) rfl ?_)
    | refine x_op rfl (x_val (by first | exact r_own_add (i := 0) (by assumption) rfl rfl rfl | exact r_own_add (i := 1) (by assumption) rfl rfl rfl | exact r_own_add (i := 2) (by assumption) rfl rfl rfl | exact r_own_add (i := 3) (by assumption) rfl rfl rfl | exact r_own_add (i := 4) (by assumption) rfl rfl rfl | exact r_own_add (i := 5) (by assumption) rfl rfl rfl | exact r_own (i := 0) (by assumption) rfl rfl rfl | exact r_own (i := 1) (by assumption) rfl rfl rfl | exact r_own (i := 2) (by assumption) rfl rfl rfl | exact r_own (i := 3) (by assumption) rfl rfl rfl | exact r_own (i := 4) (by assumption) rfl rfl rfl | exact r_own (i := 5) (by assumption) rfl rfl rfl) rfl ?_)
    | refine x_op rfl (x_val (r_len_string (by assumption) rfl) rfl ?_)
    | refine x_op rfl (x_val (r_len_slice (by assumption) rfl) rfl ?_)
    | refine x_op rfl (x_val (r_cap_slice (by assumption) rfl) rfl ?_)
    | refine x_op rfl (x_val (r_not rfl rfl) rfl ?_)
    | refine x_op rfl (x_val (r_add rfl rfl ⟨by omega, by omega⟩) rfl ?_)
    | refine x_op rfl (x_val (r_sub rfl rfl ⟨by omega, by omega⟩) rfl ?_)
    | refine x_op rfl (x_val (r_build (by assumption) (by assumption) rfl rfl) rfl ?_)
    | refine x_op rfl (x_val (r_nilCheck rfl) rfl ?_)
    | refine x_op rfl (x_val (r_lss (r := true) rfl rfl (decide_eq_true (by omega))) rfl ?_)
    | refine x_op rfl (x_val (r_lss (r := false) rfl rfl (decide_eq_false (by omega))) rfl ?_)
    | refine x_op rfl (x_val (r_leq (r := true) rfl rfl (decide_eq_true (by omega))) rfl ?_)
    | refine x_op rfl (x_val (r_leq (r := false) rfl rfl (decide_eq_false (by omega))) rfl ?_)
    | refine x_op rfl (x_val (r_gtr (r := true) rfl rfl (decide_eq_true (by omega))) rfl ?_)
    | refine x_op rfl (x_val (r_gtr (r := false) rfl rfl (decide_eq_false (by omega))) rfl ?_)
    | refine x_op rfl (x_val (r_geq (r := true) rfl rfl (decide_eq_true (by omega))) rfl ?_)
    | refine x_op rfl (x_val (r_geq (r := false) rfl rfl (decide_eq_false (by omega))) rfl ?_)
    | refine x_op rfl (x_val (r_eql (r := true) rfl rfl (decide_eq_true (by omega))) rfl ?_)
    | refine x_op rfl (x_val (r_eql (r := false) rfl rfl (decide_eq_false (by omega))) rfl ?_)
    | refine x_op rfl (x_val (r_neq (r := true) rfl rfl (decide_eq_true (by omega))) rfl ?_)
    | refine x_op rfl (x_val (r_neq (r := false) rfl rfl (decide_eq_false (by omega))) rfl ?_)
    | refine x_op rfl (x_val (by first | exact r_ownN (i := 0) (by assumption) rfl rfl rfl | exact r_ownN (i := 1) (by assumption) rfl rfl rfl | exact r_ownN (i := 2) (by assumption) rfl rfl rfl | exact r_ownN (i := 3) (by assumption) rfl rfl rfl | exact r_ownN (i := 4) (by assumption) rfl rfl rfl | exact r_ownN (i := 5) (by assumption) rfl rfl rfl) rfl ?_)
    | refine x_op rfl (s_store (i := 0) (by assumption) rfl rfl rfl rfl rfl rfl ?_)
    | refine x_op rfl (s_store (i := 1) (by assumption) rfl rfl rfl rfl rfl rfl ?_)
    | refine x_op rfl (s_store (i := 2) (by assumption) rfl rfl rfl rfl rfl rfl ?_)
    | refine x_op rfl (s_store (i := 3) (by assumption) rfl rfl rfl rfl rfl rfl ?_)
    | refine x_op rfl (s_store (i := 4) (by assumption) rfl rfl rfl rfl rfl rfl ?_)
    | refine x_op rfl (s_store (i := 5) (by assumption) rfl rfl rfl rfl rfl rfl ?_)
    | refine x_op rfl (s_box rfl rfl fun b hb => ?_) | refine x_op rfl (s_alloc (by assumption) rfl fun b hb => ?_))
      refine x_there (A1, c1) ⟨rfl, rfl, by simp; rfl, trivial⟩ (fun _ h => ?_) (by simpa using hok1)
      simpa [pick] using h.pick_ [0, 1, 2, 3] (by decide)
    · repeat (first
    | refine x_seq ?_ | refine x_region ?_ | refine x_nil ?_ | refine x_block ?_ | refine x_skip ?_ | refine x_exit rfl ?_ | refine x_true rfl ?_ | refine x_false rfl ?_ | refine x_ret ?_ | refine x_tend ?_
    | refine x_off rfl rfl ?_ | refine x_off0 rfl ?_
    | refine x_op rfl (x_val (r_move rfl) rfl ?_)
    | refine x_op rfl (x_val (r_assign rfl) rfl ?_)
    | refine x_op rfl (x_val (r_extract rfl rfl) rfl ?_)
    | refine x_op rfl (x_val (r_pick_t rfl rfl) rfl ?_)
    | refine x_op rfl (x_val (r_pick_f rfl rfl) rfl ?_)
    | refine x_op rfl (x_val (r_fieldAddr (by assumption) rfl) rfl ?_)
    | refine x_op rfl (x_val (by first | exact r_own_add (i := 0) (by assumption) rfl rfl rfl | exact r_own_add (i := 1) (by assumption) rfl rfl rfl | exact r_own_add (i := 2) (by assumption) rfl rfl rfl | exact r_own_add (i := 3) (by assumption) rfl rfl rfl | exact r_own_add (i := 4) (by assumption) rfl rfl rfl | exact r_own_add (i := 5) (by assumption) rfl rfl rfl | exact r_own (i := 0) (by assumption) rfl rfl rfl | exact r_own (i := 1) (by assumption) rfl rfl rfl | exact r_own (i := 2) (by assumption) rfl rfl rfl | exact r_own (i := 3) (by assumption) rfl rfl rfl | exact r_own (i := 4) (by assumption) rfl rfl rfl | exact r_own (i := 5) (by assumption) rfl rfl rfl) rfl ?_)
    | refine x_op rfl (x_val (r_len_string (by assumption) rfl) rfl ?_)
    | refine x_op rfl (x_val (r_len_slice (by assumption) rfl) rfl ?_)
    | refine x_op rfl (x_val (r_cap_slice (by assumption) rfl) rfl ?_)
    | refine x_op rfl (x_val (r_not rfl rfl) rfl ?_)
    | refine x_op rfl (x_val (r_add rfl rfl ⟨by omega, by omega⟩) rfl ?_)
    | refine x_op rfl (x_val (r_sub rfl rfl ⟨by omega, by omega⟩) rfl ?_)
    | refine x_op rfl (x_val (r_build (by assumption) (by assumption) rfl rfl) rfl ?_)
    | refine x_op rfl (x_val (r_nilCheck rfl) rfl ?_)
    | refine x_op rfl (x_val (r_lss (r := true) rfl rfl (decide_eq_true (by omega))) rfl ?_)
    | refine x_op rfl (x_val (r_lss (r := false) rfl rfl (decide_eq_false (by omega))) rfl ?_)
    | refine x_op rfl (x_val (r_leq (r := true) rfl rfl (decide_eq_true (by omega))) rfl ?_)
    | refine x_op rfl (x_val (r_leq (r := false) rfl rfl (decide_eq_false (by omega))) rfl ?_)
    | refine x_op rfl (x_val (r_gtr (r := true) rfl rfl (decide_eq_true (by omega))) rfl ?_)
    | refine x_op rfl (x_val (r_gtr (r := false) rfl rfl (decide_eq_false (by omega))) rfl ?_)
    | refine x_op rfl (x_val (r_geq (r := true) rfl rfl (decide_eq_true (by omega))) rfl ?_)
    | refine x_op rfl (x_val (r_geq (r := false) rfl rfl (decide_eq_false (by omega))) rfl ?_)
    | refine x_op rfl (x_val (r_eql (r := true) rfl rfl (decide_eq_true (by omega))) rfl ?_)
    | refine x_op rfl (x_val (r_eql (r := false) rfl rfl (decide_eq_false (by omega))) rfl ?_)
    | refine x_op rfl (x_val (r_neq (r := true) rfl rfl (decide_eq_true (by omega))) rfl ?_)
    | refine x_op rfl (x_val (r_neq (r := false) rfl rfl (decide_eq_false (by omega))) rfl ?_)
    | refine x_op rfl (x_val (by first | exact r_ownN (i := 0) (by assumption) rfl rfl rfl | exact r_ownN (i := 1) (by assumption) rfl rfl rfl | exact r_ownN (i := 2) (by assumption) rfl rfl rfl | exact r_ownN (i := 3) (by assumption) rfl rfl rfl | exact r_ownN (i := 4) (by assumption) rfl rfl rfl | exact r_ownN (i := 5) (by assumption) rfl rfl rfl) rfl ?_)
    | refine x_op rfl (s_store (i := 0) (by assumption) rfl rfl rfl rfl rfl rfl ?_)
    | refine x_op rfl (s_store (i := 1) (by assumption) rfl rfl rfl rfl rfl rfl ?_)
    | refine x_op rfl (s_store (i := 2) (by assumption) rfl rfl rfl rfl rfl rfl ?_)
    | refine x_op rfl (s_store (i := 3) (by assumption) rfl rfl rfl rfl rfl rfl ?_)
    | refine x_op rfl (s_store (i := 4) (by assumption) rfl rfl rfl rfl rfl rfl ?_)
    | refine x_op rfl (s_store (i := 5) (by assumption) rfl rfl rfl rfl rfl rfl ?_)
    | refine x_op rfl (s_box rfl rfl fun b hb => ?_) | refine x_op rfl (s_alloc (by assumption) rfl fun b hb => ?_))
      refine x_textS [bl b8 26 #[.bool true, .int .i64 first, .slice A1 ps.length c1], bl b5 26 #[.bool true, .int .i64 first2, .slice B qs.length cb]] (by kernel_rfl) (fun _ h => h.pick_ [0, 3] (by decide)) ?_
      refine x_tk rfl (r_fieldAddr q26_2 rfl) rfl (fun _ h => h.pick_ [0, 3] (by decide)) ?_
      refine x_tk rfl (r_own_add (i := 0) z22 rfl rfl rfl) rfl (fun _ h => h.pick_ [0, 3] (by decide)) ?_
      refine x_tk rfl (r_move rfl) rfl (fun _ h => h.pick_ [0, 3] (by decide)) ?_
      refine x_tk rfl (r_fieldAddr q26_1 rfl) rfl (fun _ h => h.pick_ [0, 3] (by decide)) ?_
      refine x_tk rfl (r_own_add (i := 1) z3 rfl rfl rfl) rfl (fun _ h => h.pick_ [0, 3] (by decide)) ?_
      refine x_tany ?_
      refine x_all [5] (by kernel_rfl) ⟨x_do rfl rfl (s_call Ty.c16 rfl rfl (fun w hw => Cell_ key first2 w) (fun wq v wq1 hw h => ?_)), trivial⟩
      obtain ⟨rfl, hO⟩ := h
      refine ⟨_, hw.call0 hO, x_and (fun _ h => h.pick_ [0, 3] (by decide)) ?_⟩
      refine x_all [6] (by kernel_rfl) ⟨x_do rfl rfl (s_buildSlice u22 i36 rfl rfl rfl rfl fun b hb => x_and (fun _ h => h.pick_ [1, 4] (by decide)) ?_), trivial⟩
      refine x_all [7] (by kernel_rfl) ⟨x_do rfl rfl (s_append (i := 2) (news := fl [(key, four4 first2)]) u22 i36 rfl (by omega) rfl rfl rfl rfl hok1 (fun w hO => hO.rd_bl (i := 0) rfl rfl (by simp [maxLen]) rfl) (fl_one _) (by simp only [maxLen]; omega) (by omega) fun A' c' hok => x_and (fun _ h => h.pick_ [1, 4] (by decide)) ?_), trivial⟩
      refine x_take 8 rfl (by kernel_rfl) rfl (r_fieldAddr q26_2 rfl) rfl (fun _ h => h.pick_ [1, 4] (by decide)) ?_
      refine x_all [9] (by kernel_rfl) ⟨x_do rfl rfl (s_store (i := 1) z22 rfl rfl rfl rfl rfl rfl (x_new [] (by kernel_rfl) ?_)), trivial⟩
      refine x_done (by kernel_rfl) ?_
      refine x_there (A', c') ⟨rfl, rfl, by simp; rfl, trivial⟩ (fun _ h => ?_) (by simpa [fl_append] using hok)
      have h2 : Own w [] [bl b8 26 #[.bool true, .int .i64 first, .slice A' (ps.length + 1) c'], sl A' c' 36 2 (fl ps ++ fl [(key, four4 first2)]), bl b6 26 #[.bool false, .int .i64 0, .slice none 0 0], bl b5 26 #[.bool true, .int .i64 first2, .slice B qs.length cb]] _ := h.pick_ [1, 2, 3, 4] (by decide)
      simpa [fl_append] using h2
  rintro ⟨A2, c2⟩ hok2
  simp only [] at hok2 ⊢
  have hlt : (ps ++ if br2 then [(key, four4 first2)] else []).length ≤ 256 := by
    rw [List.length_append]
    cases br2 <;> simp <;> omega
  have hsc : ∀ p ∈ mergeCs ⟨br2, first, ps⟩ ⟨br2, first2, qs⟩ key, p.1.size ≤ maxLen ∧ p.2.size ≤ maxLen := by
    intro p hp
    simp only [mergeCs, List.mem_append] at hp
    rcases hp with (hp | hp) | hp
    · exact hsa p hp
    · cases br2
      · simp at hp
      · simp only [if_true, List.mem_singleton] at hp
        subst hp
        refine ⟨hk, ?_⟩
        simp only [four4, strOfNums_size, maxLen]
        simp
    · exact hsb p hp
  generalize hm : (ps ++ if br2 then [(key, four4 first2)] else []) = ms at hok2 hlt
  have hcs : mergeCs ⟨br2, first, ps⟩ ⟨br2, first2, qs⟩ key = ms ++ qs := by simp only [mergeCs]; rw [hm]
  rw [hcs] at hsc
  have hM' : M = if Nd.right ⟨br2, first, ms ++ qs⟩ = false then (.zero, 2) else (⟨br2, first, ms ++ qs⟩, 0) := by
    rw [← hM, ← hcs]
    simp [mergeF, hN, hN2]
  have hlen : (ms ++ qs).length = ms.length + qs.length := List.length_append
  refine x_cut (σ := Option Addr × Nat) (fun _ => [(6, .pointer (some ⟨b6, 0, none⟩)), (8, .pointer (some ⟨b8, 0, none⟩))])
    (fun s => [bl b8 26 #[.bool br2, .int .i64 first, .slice s.1 (ms ++ qs).length s.2], sl s.1 s.2 36 2 (fl (ms ++ qs)), bl b6 26 #[.bool false, .int .i64 0, .slice none 0 0], bl b5 26 #[.bool br2, .int .i64 first2, .slice B qs.length cb]]) (fun s => SlOk s.1 (ms ++ qs).length s.2 2 (fl (ms ++ qs))) ?_ ?_
  · repeat (first
    | refine x_region ?_ | refine x_nil ?_ | refine x_tend ?_
    | refine x_off rfl rfl ?_ | refine x_off0 rfl ?_
    | refine x_op rfl (x_val (r_move rfl) rfl ?_)
    | refine x_op rfl (x_val (r_assign rfl) rfl ?_)
    | refine x_op rfl (x_val (r_extract rfl rfl) rfl ?_)
    | refine x_op rfl (x_val (r_pick_t rfl rfl) rfl ?_)
    | refine x_op rfl (x_val (r_pick_f rfl rfl) rfl ?_)
    | refine x_op rfl (x_val (r_fieldAddr (by assumption) rfl) rfl ?_)
    | refine x_op rfl (x_val (by first | exact r_own_add (i := 0) (by assumption) rfl rfl rfl | exact r_own_add (i := 1) (by assumption) rfl rfl rfl | exact r_own_add (i := 2) (by assumption) rfl rfl rfl | exact r_own_add (i := 3) (by assumption) rfl rfl rfl | exact r_own_add (i := 4) (by assumption) rfl rfl rfl | exact r_own_add (i := 5) (by assumption) rfl rfl rfl | exact r_own (i := 0) (by assumption) rfl rfl rfl | exact r_own (i := 1) (by assumption) rfl rfl rfl | exact r_own (i := 2) (by assumption) rfl rfl rfl | exact r_own (i := 3) (by assumption) rfl rfl rfl | exact r_own (i := 4) (by assumption) rfl rfl rfl | exact r_own (i := 5) (by assumption) rfl rfl rfl) rfl ?_)
    | refine x_op rfl (x_val (r_len_string (by assumption) rfl) rfl ?_)
    | refine x_op rfl (x_val (r_len_slice (by assumption) rfl) rfl ?_)
    | refine x_op rfl (x_val (r_cap_slice (by assumption) rfl) rfl ?_)
    | refine x_op rfl (x_val (r_not rfl rfl) rfl ?_)
    | refine x_op rfl (x_val (r_add rfl rfl ⟨by omega, by omega⟩) rfl ?_)
    | refine x_op rfl (x_val (r_sub rfl rfl ⟨by omega, by omega⟩) rfl ?_)
    | refine x_op rfl (x_val (r_build (by assumption) (by assumption) rfl rfl) rfl ?_)
    | refine x_op rfl (x_val (r_nilCheck rfl) rfl ?_)
    | refine x_op rfl (x_val (r_lss (r := true) rfl rfl (decide_eq_true (by omega))) rfl ?_)
    | refine x_op rfl (x_val (r_lss (r := false) rfl rfl (decide_eq_false (by omega))) rfl ?_)
    | refine x_op rfl (x_val (r_leq (r := true) rfl rfl (decide_eq_true (by omega))) rfl ?_)
    | refine x_op rfl (x_val (r_leq (r := false) rfl rfl (decide_eq_false (by omega))) rfl ?_)
    | refine x_op rfl (x_val (r_gtr (r := true) rfl rfl (decide_eq_true (by omega))) rfl ?_)
    | refine x_op rfl (x_val (r_gtr (r := false) rfl rfl (decide_eq_false (by omega))) rfl ?_)
    | refine x_op rfl (x_val (r_geq (r := true) rfl rfl (decide_eq_true (by omega))) rfl ?_)
    | refine x_op rfl (x_val (r_geq (r := false) rfl rfl (decide_eq_false (by omega))) rfl ?_)
    | refine x_op rfl (x_val (r_eql (r := true) rfl rfl (decide_eq_true (by omega))) rfl ?_)
    | refine x_op rfl (x_val (r_eql (r := false) rfl rfl (decide_eq_false (by omega))) rfl ?_)
    | refine x_op rfl (x_val (r_neq (r := true) rfl rfl (decide_eq_true (by omega))) rfl ?_)
    | refine x_op rfl (x_val (r_neq (r := false) rfl rfl (decide_eq_false (by omega))) rfl ?_)
    | refine x_op rfl (x_val (by first | exact r_ownN (i := 0) (by assumption) rfl rfl rfl | exact r_ownN (i := 1) (by assumption) rfl rfl rfl | exact r_ownN (i := 2) (by assumption) rfl rfl rfl | exact r_ownN (i := 3) (by assumption) rfl rfl rfl | exact r_ownN (i := 4) (by assumption) rfl rfl rfl | exact r_ownN (i := 5) (by assumption) rfl rfl rfl) rfl ?_)
    | refine x_op rfl (s_store (i := 0) (by assumption) rfl rfl rfl rfl rfl rfl ?_)
    | refine x_op rfl (s_store (i := 1) (by assumption) rfl rfl rfl rfl rfl rfl ?_)
    | refine x_op rfl (s_store (i := 2) (by assumption) rfl rfl rfl rfl rfl rfl ?_)
    | refine x_op rfl (s_store (i := 3) (by assumption) rfl rfl rfl rfl rfl rfl ?_)
    | refine x_op rfl (s_store (i := 4) (by assumption) rfl rfl rfl rfl rfl rfl ?_)
    | refine x_op rfl (s_store (i := 5) (by assumption) rfl rfl rfl rfl rfl rfl ?_)
    | refine x_op rfl (s_box rfl rfl fun b hb => ?_) | refine x_op rfl (s_alloc (by assumption) rfl fun b hb => ?_))
    refine x_op rfl (s_append (i := 1) (news := fl qs) u22 i36 rfl (by omega) rfl rfl rfl rfl hok2 (fun w hO => hO.rd0 hB) (fl_one _) (by simp only [maxLen]; omega) (by omega) fun A' c' hok => ?_)
    repeat (first
    | refine x_region ?_ | refine x_nil ?_ | refine x_tend ?_
    | refine x_off rfl rfl ?_ | refine x_off0 rfl ?_
    | refine x_op rfl (x_val (r_move rfl) rfl ?_)
    | refine x_op rfl (x_val (r_assign rfl) rfl ?_)
    | refine x_op rfl (x_val (r_extract rfl rfl) rfl ?_)
    | refine x_op rfl (x_val (r_pick_t rfl rfl) rfl ?_)
    | refine x_op rfl (x_val (r_pick_f rfl rfl) rfl ?_)
    | refine x_op rfl (x_val (r_fieldAddr (by assumption) rfl) rfl ?_)
    | refine x_op rfl (x_val (by first | exact r_own_add (i := 0) (by assumption) rfl rfl rfl | exact r_own_add (i := 1) (by assumption) rfl rfl rfl | exact r_own_add (i := 2) (by assumption) rfl rfl rfl | exact r_own_add (i := 3) (by assumption) rfl rfl rfl | exact r_own_add (i := 4) (by assumption) rfl rfl rfl | exact r_own_add (i := 5) (by assumption) rfl rfl rfl | exact r_own (i := 0) (by assumption) rfl rfl rfl | exact r_own (i := 1) (by assumption) rfl rfl rfl | exact r_own (i := 2) (by assumption) rfl rfl rfl | exact r_own (i := 3) (by assumption) rfl rfl rfl | exact r_own (i := 4) (by assumption) rfl rfl rfl | exact r_own (i := 5) (by assumption) rfl rfl rfl) rfl ?_)
    | refine x_op rfl (x_val (r_len_string (by assumption) rfl) rfl ?_)
    | refine x_op rfl (x_val (r_len_slice (by assumption) rfl) rfl ?_)
    | refine x_op rfl (x_val (r_cap_slice (by assumption) rfl) rfl ?_)
    | refine x_op rfl (x_val (r_not rfl rfl) rfl ?_)
    | refine x_op rfl (x_val (r_add rfl rfl ⟨by omega, by omega⟩) rfl ?_)
    | refine x_op rfl (x_val (r_sub rfl rfl ⟨by omega, by omega⟩) rfl ?_)
    | refine x_op rfl (x_val (r_build (by assumption) (by assumption) rfl rfl) rfl ?_)
    | refine x_op rfl (x_val (r_nilCheck rfl) rfl ?_)
    | refine x_op rfl (x_val (r_lss (r := true) rfl rfl (decide_eq_true (by omega))) rfl ?_)
    | refine x_op rfl (x_val (r_lss (r := false) rfl rfl (decide_eq_false (by omega))) rfl ?_)
    | refine x_op rfl (x_val (r_leq (r := true) rfl rfl (decide_eq_true (by omega))) rfl ?_)
    | refine x_op rfl (x_val (r_leq (r := false) rfl rfl (decide_eq_false (by omega))) rfl ?_)
    | refine x_op rfl (x_val (r_gtr (r := true) rfl rfl (decide_eq_true (by omega))) rfl ?_)
    | refine x_op rfl (x_val (r_gtr (r := false) rfl rfl (decide_eq_false (by omega))) rfl ?_)
    | refine x_op rfl (x_val (r_geq (r := true) rfl rfl (decide_eq_true (by omega))) rfl ?_)
    | refine x_op rfl (x_val (r_geq (r := false) rfl rfl (decide_eq_false (by omega))) rfl ?_)
    | refine x_op rfl (x_val (r_eql (r := true) rfl rfl (decide_eq_true (by omega))) rfl ?_)
    | refine x_op rfl (x_val (r_eql (r := false) rfl rfl (decide_eq_false (by omega))) rfl ?_)
    | refine x_op rfl (x_val (r_neq (r := true) rfl rfl (decide_eq_true (by omega))) rfl ?_)
    | refine x_op rfl (x_val (r_neq (r := false) rfl rfl (decide_eq_false (by omega))) rfl ?_)
    | refine x_op rfl (x_val (by first | exact r_ownN (i := 0) (by assumption) rfl rfl rfl | exact r_ownN (i := 1) (by assumption) rfl rfl rfl | exact r_ownN (i := 2) (by assumption) rfl rfl rfl | exact r_ownN (i := 3) (by assumption) rfl rfl rfl | exact r_ownN (i := 4) (by assumption) rfl rfl rfl | exact r_ownN (i := 5) (by assumption) rfl rfl rfl) rfl ?_)
    | refine x_op rfl (s_store (i := 0) (by assumption) rfl rfl rfl rfl rfl rfl ?_)
    | refine x_op rfl (s_store (i := 1) (by assumption) rfl rfl rfl rfl rfl rfl ?_)
    | refine x_op rfl (s_store (i := 2) (by assumption) rfl rfl rfl rfl rfl rfl ?_)
    | refine x_op rfl (s_store (i := 3) (by assumption) rfl rfl rfl rfl rfl rfl ?_)
    | refine x_op rfl (s_store (i := 4) (by assumption) rfl rfl rfl rfl rfl rfl ?_)
    | refine x_op rfl (s_store (i := 5) (by assumption) rfl rfl rfl rfl rfl rfl ?_)
    | refine x_op rfl (s_box rfl rfl fun b hb => ?_) | refine x_op rfl (s_alloc (by assumption) rfl fun b hb => ?_))
    refine x_there (A', c') ⟨rfl, rfl, trivial⟩ (fun _ h => ?_) (by rw [hlen, fl_append]; exact hok)
    have h2 : Own w [] [bl b8 26 #[.bool br2, .int .i64 first, .slice A' (ms.length + qs.length) c'], sl A' c' 36 2 (fl ms ++ fl qs), bl b6 26 #[.bool false, .int .i64 0, .slice none 0 0], bl b5 26 #[.bool br2, .int .i64 first2, .slice B qs.length cb]] _ := h
    rw [hlen, fl_append]
    exact h2
  rintro ⟨A', c'⟩ hok
  simp only [] at hok ⊢
  repeat (first
    | refine x_seq ?_ | refine x_region ?_ | refine x_nil ?_ | refine x_block ?_ | refine x_skip ?_ | refine x_exit rfl ?_ | refine x_true rfl ?_ | refine x_false rfl ?_ | refine x_ret ?_ | refine x_tend ?_
    | refine x_off rfl rfl ?_ | refine x_off0 rfl ?_
    | refine x_op rfl (x_val (r_move rfl) rfl ?_)
    | refine x_op rfl (x_val (r_assign rfl) rfl ?_)
    | refine x_op rfl (x_val (r_extract rfl rfl) rfl ?_)
    | refine x_op rfl (x_val (r_pick_t rfl rfl) rfl ?_)
    | refine x_op rfl (x_val (r_pick_f rfl rfl) rfl ?_)
    | refine x_op rfl (x_val (r_fieldAddr (by assumption) rfl) rfl ?_)
    | refine x_op rfl (x_val (by first | exact r_own_add (i := 0) (by assumption) rfl rfl rfl | exact r_own_add (i := 1) (by assumption) rfl rfl rfl | exact r_own_add (i := 2) (by assumption) rfl rfl rfl | exact r_own_add (i := 3) (by assumption) rfl rfl rfl | exact r_own_add (i := 4) (by assumption) rfl rfl rfl | exact r_own_add (i := 5) (by assumption) rfl rfl rfl | exact r_own (i := 0) (by assumption) rfl rfl rfl | exact r_own (i := 1) (by assumption) rfl rfl rfl | exact r_own (i := 2) (by assumption) rfl rfl rfl | exact r_own (i := 3) (by assumption) rfl rfl rfl | exact r_own (i := 4) (by assumption) rfl rfl rfl | exact r_own (i := 5) (by assumption) rfl rfl rfl) rfl ?_)
    | refine x_op rfl (x_val (r_len_string (by assumption) rfl) rfl ?_)
    | refine x_op rfl (x_val (r_len_slice (by assumption) rfl) rfl ?_)
    | refine x_op rfl (x_val (r_cap_slice (by assumption) rfl) rfl ?_)
    | refine x_op rfl (x_val (r_not rfl rfl) rfl ?_)
    | refine x_op rfl (x_val (r_add rfl rfl ⟨by omega, by omega⟩) rfl ?_)
    | refine x_op rfl (x_val (r_sub rfl rfl ⟨by omega, by omega⟩) rfl ?_)
    | refine x_op rfl (x_val (r_build (by assumption) (by assumption) rfl rfl) rfl ?_)
    | refine x_op rfl (x_val (r_nilCheck rfl) rfl ?_)
    | refine x_op rfl (x_val (r_lss (r := true) rfl rfl (decide_eq_true (by omega))) rfl ?_)
    | refine x_op rfl (x_val (r_lss (r := false) rfl rfl (decide_eq_false (by omega))) rfl ?_)
    | refine x_op rfl (x_val (r_leq (r := true) rfl rfl (decide_eq_true (by omega))) rfl ?_)
    | refine x_op rfl (x_val (r_leq (r := false) rfl rfl (decide_eq_false (by omega))) rfl ?_)
    | refine x_op rfl (x_val (r_gtr (r := true) rfl rfl (decide_eq_true (by omega))) rfl ?_)
    | refine x_op rfl (x_val (r_gtr (r := false) rfl rfl (decide_eq_false (by omega))) rfl ?_)
    | refine x_op rfl (x_val (r_geq (r := true) rfl rfl (decide_eq_true (by omega))) rfl ?_)
    | refine x_op rfl (x_val (r_geq (r := false) rfl rfl (decide_eq_false (by omega))) rfl ?_)
    | refine x_op rfl (x_val (r_eql (r := true) rfl rfl (decide_eq_true (by omega))) rfl ?_)
    | refine x_op rfl (x_val (r_eql (r := false) rfl rfl (decide_eq_false (by omega))) rfl ?_)
    | refine x_op rfl (x_val (r_neq (r := true) rfl rfl (decide_eq_true (by omega))) rfl ?_)
    | refine x_op rfl (x_val (r_neq (r := false) rfl rfl (decide_eq_false (by omega))) rfl ?_)
    | refine x_op rfl (x_val (by first | exact r_ownN (i := 0) (by assumption) rfl rfl rfl | exact r_ownN (i := 1) (by assumption) rfl rfl rfl | exact r_ownN (i := 2) (by assumption) rfl rfl rfl | exact r_ownN (i := 3) (by assumption) rfl rfl rfl | exact r_ownN (i := 4) (by assumption) rfl rfl rfl | exact r_ownN (i := 5) (by assumption) rfl rfl rfl) rfl ?_)
    | refine x_op rfl (s_store (i := 0) (by assumption) rfl rfl rfl rfl rfl rfl ?_)
    | refine x_op rfl (s_store (i := 1) (by assumption) rfl rfl rfl rfl rfl rfl ?_)
    | refine x_op rfl (s_store (i := 2) (by assumption) rfl rfl rfl rfl rfl rfl ?_)
    | refine x_op rfl (s_store (i := 3) (by assumption) rfl rfl rfl rfl rfl rfl ?_)
    | refine x_op rfl (s_store (i := 4) (by assumption) rfl rfl rfl rfl rfl rfl ?_)
    | refine x_op rfl (s_store (i := 5) (by assumption) rfl rfl rfl rfl rfl rfl ?_)
    | refine x_op rfl (s_box rfl rfl fun b hb => ?_) | refine x_op rfl (s_alloc (by assumption) rfl fun b hb => ?_))
  refine x_op rfl (s_call Ty.c11 rfl rfl (fun w hw => right_ br2 first A' (ms ++ qs).length c' (ms ++ qs) w (hw.rd_sl (i := 1) rfl hok) hsc) (fun wq v wq1 hw h => ?_)); obtain ⟨rfl, hO⟩ := h; refine ⟨_, hw.call0 hO, ?_⟩
  cases hR : rightB br2 first (ms ++ qs)
  · repeat (first
    | refine x_seq ?_ | refine x_region ?_ | refine x_nil ?_ | refine x_block ?_ | refine x_skip ?_ | refine x_exit rfl ?_ | refine x_true rfl ?_ | refine x_false rfl ?_ | refine x_ret ?_ | refine x_tend ?_
    | refine x_off rfl rfl ?_ | refine x_off0 rfl ?_
    | refine x_op rfl (x_val (r_move rfl) rfl ?_)
    | refine x_op rfl (x_val (r_assign rfl) rfl ?_)
    | refine x_op rfl (x_val (r_extract rfl rfl) rfl ?_)
    | refine x_op rfl (x_val (r_pick_t rfl rfl) rfl ?_)
    | refine x_op rfl (x_val (r_pick_f rfl rfl) rfl ?_)
    | refine x_op rfl (x_val (r_fieldAddr (by assumption) rfl) rfl ?_)
    | refine x_op rfl (x_val (by first | exact r_own_add (i := 0) (by assumption) rfl rfl rfl | exact r_own_add (i := 1) (by assumption) rfl rfl rfl | exact r_own_add (i := 2) (by assumption) rfl rfl rfl | exact r_own_add (i := 3) (by assumption) rfl rfl rfl | exact r_own_add (i := 4) (by assumption) rfl rfl rfl | exact r_own_add (i := 5) (by assumption) rfl rfl rfl | exact r_own (i := 0) (by assumption) rfl rfl rfl | exact r_own (i := 1) (by assumption) rfl rfl rfl | exact r_own (i := 2) (by assumption) rfl rfl rfl | exact r_own (i := 3) (by assumption) rfl rfl rfl | exact r_own (i := 4) (by assumption) rfl rfl rfl | exact r_own (i := 5) (by assumption) rfl rfl rfl) rfl ?_)
    | refine x_op rfl (x_val (r_len_string (by assumption) rfl) rfl ?_)
    | refine x_op rfl (x_val (r_len_slice (by assumption) rfl) rfl ?_)
    | refine x_op rfl (x_val (r_cap_slice (by assumption) rfl) rfl ?_)
    | refine x_op rfl (x_val (r_not rfl rfl) rfl ?_)
    | refine x_op rfl (x_val (r_add rfl rfl ⟨by omega, by omega⟩) rfl ?_)
    | refine x_op rfl (x_val (r_sub rfl rfl ⟨by omega, by omega⟩) rfl ?_)
    | refine x_op rfl (x_val (r_build (by assumption) (by assumption) rfl rfl) rfl ?_)
    | refine x_op rfl (x_val (r_nilCheck rfl) rfl ?_)
    | refine x_op rfl (x_val (r_lss (r := true) rfl rfl (decide_eq_true (by omega))) rfl ?_)
    | refine x_op rfl (x_val (r_lss (r := false) rfl rfl (decide_eq_false (by omega))) rfl ?_)
    | refine x_op rfl (x_val (r_leq (r := true) rfl rfl (decide_eq_true (by omega))) rfl ?_)
    | refine x_op rfl (x_val (r_leq (r := false) rfl rfl (decide_eq_false (by omega))) rfl ?_)
    | refine x_op rfl (x_val (r_gtr (r := true) rfl rfl (decide_eq_true (by omega))) rfl ?_)
    | refine x_op rfl (x_val (r_gtr (r := false) rfl rfl (decide_eq_false (by omega))) rfl ?_)
    | refine x_op rfl (x_val (r_geq (r := true) rfl rfl (decide_eq_true (by omega))) rfl ?_)
    | refine x_op rfl (x_val (r_geq (r := false) rfl rfl (decide_eq_false (by omega))) rfl ?_)
    | refine x_op rfl (x_val (r_eql (r := true) rfl rfl (decide_eq_true (by omega))) rfl ?_)
    | refine x_op rfl (x_val (r_eql (r := false) rfl rfl (decide_eq_false (by omega))) rfl ?_)
    | refine x_op rfl (x_val (r_neq (r := true) rfl rfl (decide_eq_true (by omega))) rfl ?_)
    | refine x_op rfl (x_val (r_neq (r := false) rfl rfl (decide_eq_false (by omega))) rfl ?_)
    | refine x_op rfl (x_val (by first | exact r_ownN (i := 0) (by assumption) rfl rfl rfl | exact r_ownN (i := 1) (by assumption) rfl rfl rfl | exact r_ownN (i := 2) (by assumption) rfl rfl rfl | exact r_ownN (i := 3) (by assumption) rfl rfl rfl | exact r_ownN (i := 4) (by assumption) rfl rfl rfl | exact r_ownN (i := 5) (by assumption) rfl rfl rfl) rfl ?_)
    | refine x_op rfl (s_store (i := 0) (by assumption) rfl rfl rfl rfl rfl rfl ?_)
    | refine x_op rfl (s_store (i := 1) (by assumption) rfl rfl rfl rfl rfl rfl ?_)
    | refine x_op rfl (s_store (i := 2) (by assumption) rfl rfl rfl rfl rfl rfl ?_)
    | refine x_op rfl (s_store (i := 3) (by assumption) rfl rfl rfl rfl rfl rfl ?_)
    | refine x_op rfl (s_store (i := 4) (by assumption) rfl rfl rfl rfl rfl rfl ?_)
    | refine x_op rfl (s_store (i := 5) (by assumption) rfl rfl rfl rfl rfl rfl ?_)
    | refine x_op rfl (s_box rfl rfl fun b hb => ?_) | refine x_op rfl (s_alloc (by assumption) rfl fun b hb => ?_))
    exact x_rets (rs := []) (vs := []) rfl ⟨res_own (i := 2) (cs := [.bool false, .int .i64 0, .slice none 0 0]) rfl rfl z26 rfl, rfl, trivial⟩ fun w1 hO => herr w1 _ 2 hO (by rw [hM']; simp [Nd.right, hR])
  · repeat (first
    | refine x_seq ?_ | refine x_region ?_ | refine x_nil ?_ | refine x_block ?_ | refine x_skip ?_ | refine x_exit rfl ?_ | refine x_true rfl ?_ | refine x_false rfl ?_ | refine x_ret ?_ | refine x_tend ?_
    | refine x_off rfl rfl ?_ | refine x_off0 rfl ?_
    | refine x_op rfl (x_val (r_move rfl) rfl ?_)
    | refine x_op rfl (x_val (r_assign rfl) rfl ?_)
    | refine x_op rfl (x_val (r_extract rfl rfl) rfl ?_)
    | refine x_op rfl (x_val (r_pick_t rfl rfl) rfl ?_)
    | refine x_op rfl (x_val (r_pick_f rfl rfl) rfl ?_)
    | refine x_op rfl (x_val (r_fieldAddr (by assumption) rfl) rfl ?_)
    | refine x_op rfl (x_val (by first | exact r_own_add (i := 0) (by assumption) rfl rfl rfl | exact r_own_add (i := 1) (by assumption) rfl rfl rfl | exact r_own_add (i := 2) (by assumption) rfl rfl rfl | exact r_own_add (i := 3) (by assumption) rfl rfl rfl | exact r_own_add (i := 4) (by assumption) rfl rfl rfl | exact r_own_add (i := 5) (by assumption) rfl rfl rfl | exact r_own (i := 0) (by assumption) rfl rfl rfl | exact r_own (i := 1) (by assumption) rfl rfl rfl | exact r_own (i := 2) (by assumption) rfl rfl rfl | exact r_own (i := 3) (by assumption) rfl rfl rfl | exact r_own (i := 4) (by assumption) rfl rfl rfl | exact r_own (i := 5) (by assumption) rfl rfl rfl) rfl ?_)
    | refine x_op rfl (x_val (r_len_string (by assumption) rfl) rfl ?_)
    | refine x_op rfl (x_val (r_len_slice (by assumption) rfl) rfl ?_)
    | refine x_op rfl (x_val (r_cap_slice (by assumption) rfl) rfl ?_)
    | refine x_op rfl (x_val (r_not rfl rfl) rfl ?_)
    | refine x_op rfl (x_val (r_add rfl rfl ⟨by omega, by omega⟩) rfl ?_)
    | refine x_op rfl (x_val (r_sub rfl rfl ⟨by omega, by omega⟩) rfl ?_)
    | refine x_op rfl (x_val (r_build (by assumption) (by assumption) rfl rfl) rfl ?_)
    | refine x_op rfl (x_val (r_nilCheck rfl) rfl ?_)
    | refine x_op rfl (x_val (r_lss (r := true) rfl rfl (decide_eq_true (by omega))) rfl ?_)
    | refine x_op rfl (x_val (r_lss (r := false) rfl rfl (decide_eq_false (by omega))) rfl ?_)
    | refine x_op rfl (x_val (r_leq (r := true) rfl rfl (decide_eq_true (by omega))) rfl ?_)
    | refine x_op rfl (x_val (r_leq (r := false) rfl rfl (decide_eq_false (by omega))) rfl ?_)
    | refine x_op rfl (x_val (r_gtr (r := true) rfl rfl (decide_eq_true (by omega))) rfl ?_)
    | refine x_op rfl (x_val (r_gtr (r := false) rfl rfl (decide_eq_false (by omega))) rfl ?_)
    | refine x_op rfl (x_val (r_geq (r := true) rfl rfl (decide_eq_true (by omega))) rfl ?_)
    | refine x_op rfl (x_val (r_geq (r := false) rfl rfl (decide_eq_false (by omega))) rfl ?_)
    | refine x_op rfl (x_val (r_eql (r := true) rfl rfl (decide_eq_true (by omega))) rfl ?_)
    | refine x_op rfl (x_val (r_eql (r := false) rfl rfl (decide_eq_false (by omega))) rfl ?_)
    | refine x_op rfl (x_val (r_neq (r := true) rfl rfl (decide_eq_true (by omega))) rfl ?_)
    | refine x_op rfl (x_val (r_neq (r := false) rfl rfl (decide_eq_false (by omega))) rfl ?_)
    | refine x_op rfl (x_val (by first | exact r_ownN (i := 0) (by assumption) rfl rfl rfl | exact r_ownN (i := 1) (by assumption) rfl rfl rfl | exact r_ownN (i := 2) (by assumption) rfl rfl rfl | exact r_ownN (i := 3) (by assumption) rfl rfl rfl | exact r_ownN (i := 4) (by assumption) rfl rfl rfl | exact r_ownN (i := 5) (by assumption) rfl rfl rfl) rfl ?_)
    | refine x_op rfl (s_store (i := 0) (by assumption) rfl rfl rfl rfl rfl rfl ?_)
    | refine x_op rfl (s_store (i := 1) (by assumption) rfl rfl rfl rfl rfl rfl ?_)
    | refine x_op rfl (s_store (i := 2) (by assumption) rfl rfl rfl rfl rfl rfl ?_)
    | refine x_op rfl (s_store (i := 3) (by assumption) rfl rfl rfl rfl rfl rfl ?_)
    | refine x_op rfl (s_store (i := 4) (by assumption) rfl rfl rfl rfl rfl rfl ?_)
    | refine x_op rfl (s_store (i := 5) (by assumption) rfl rfl rfl rfl rfl rfl ?_)
    | refine x_op rfl (s_box rfl rfl fun b hb => ?_) | refine x_op rfl (s_alloc (by assumption) rfl fun b hb => ?_))
    have hM2 : M = (⟨br2, first, ms ++ qs⟩, 0) := by rw [hM']; simp [Nd.right, hR]
    rw [hM2]
    exact x_rets (rs := []) (vs := []) rfl ⟨res_own (i := 2) (cs := [.bool br2, .int .i64 first, .slice A' (ms ++ qs).length c']) rfl rfl z26 rfl, rfl, trivial⟩ fun w1 hO => ⟨_, rfl, A', c', rfl, hok, hO.pick_ [1] (by decide)⟩
end Go.Proofs.Ytlpoepmipbegaaa.Lf
