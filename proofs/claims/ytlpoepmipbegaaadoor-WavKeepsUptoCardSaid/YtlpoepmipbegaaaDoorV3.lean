/- The wav package: a file's bytes. -/
import Derived.Test.YtlpoepmipbegaaaDoorE6
import Derived.Test.YtlpoepmipbegaaaDoorV2
set_option linter.unusedVariables false
set_option linter.unusedSimpArgs false
namespace Go.Proofs.YtlpoepmipbegaaaDoor.Wv
open Go Go.RowKit Go.Proofs.YtlpoepmipbegaaaDoor.En
set_option maxRecDepth 20000 in
theorem low2_ (B : Option Addr) (l : List UInt8) (n : Int) (k : Nat) (w : World) (hl0 : 0 < l.length) (hr : Rd w B l.length 1 (u8s l)) (hl : l.length + k ≤ 1000000000) (hk1 : 1 ≤ k) (hk8 : k ≤ 8) :
    Calls Tryd.prog 15 #[.slice B l.length l.length, .int .i64 n, .int .i64 k] w fun en w1 => ∃ r, en = .returned r ∧ ∃ A' cap', r = .slice A' (l ++ le n k).length cap' ∧ BOk A' cap' (l ++ le n k) ∧ Own w [] [SB 5 A' cap' (l ++ le n k)] w1 := by
  refine fn_enter (args := [_, _, _]) (F := []) Tryd.func15 rfl rfl rfl ?_
  refine x_seq ?_
  refine x_region ?_
  refine x_op rfl (x_val (r_assign rfl) rfl ?_)
  refine x_nil ?_
  refine x_seq ?_
  refine x_seq ?_
  refine x_region ?_
  refine x_op rfl (x_val (r_move rfl) rfl ?_)
  refine x_op rfl (x_val (r_move rfl) rfl ?_)
  refine x_nil ?_
  refine x_block ?_
  have e0 : l ++ le n 0 = l := by simp [le]
  refine x_loopP (σ := Nat × Option Addr × Nat × Bool) [1, 8] [] (fun s => [(0, .slice s.2.1 (l ++ le n s.1).length s.2.2.1), (9, .int .i64 s.1)]) (fun s => [cond s.2.2.2 (SB 5 s.2.1 s.2.2.1 (l ++ le n s.1)) (sl none 0 5 1 [])]) (fun s => s.1 ≤ k ∧ (s.2.2.2 = true → BOk s.2.1 s.2.2.1 (l ++ le n s.1)) ∧ (s.2.2.2 = false → s.1 = 0 ∧ s.2.1 = B ∧ s.2.2.1 = l.length)) (fun s => k - s.1) ((0, B, l.length, false)) (by simp only [e0]; repeat (first | exact trivial | refine ⟨rfl, ?_⟩)) (fun _ h => h.nilsl 5 1) ⟨Nat.zero_le _, fun h => (by cases h), fun _ => ⟨rfl, rfl, rfl⟩⟩ ?_
  rintro ⟨i, A1, c1, own⟩ ⟨hi, hk1', hno⟩; simp only [] at hi hk1' hno ⊢
  refine x_nfe (e' := [_, _, _, _]) (L' := [_]) rfl rfl ?_
  refine x_seq ?_
  refine x_region ?_
  refine x_op rfl (x_val (r_lss rfl rfl rfl) rfl (x_dec (fun h10 => ?_) (fun h10 => ?_)))
  · refine x_nil ?_
    refine x_seq ?_
    refine x_true rfl ?_
    refine x_skip ?_
    refine x_seq ?_
    refine x_block ?_
    refine x_seq ?_
    refine x_region ?_
    refine x_op rfl (x_val (r_move rfl) rfl ?_)
    refine x_op rfl (x_val (r_assign rfl) rfl ?_)
    refine x_nil ?_
    refine x_region ?_
    refine x_op rfl (x_val (r_move rfl) rfl ?_)
    refine x_op rfl (x_val (r_move rfl) rfl ?_)
    refine x_op rfl (x_val (r_move rfl) rfl ?_)
    refine x_op rfl (x_val (r_mul rfl rfl ⟨by omega, by omega⟩) rfl ?_)
    refine x_op rfl (x_val (r_shr (256 ^ i) rfl rfl (pow8 i) ⟨by omega, by omega⟩) rfl ?_)
    refine x_op rfl (x_val (r_conv_int Tryd.underlying3 Tryd.underlying5 rfl (leB_wrap n i)) rfl ?_)
    refine x_op rfl (s_buildSlice Tryd.underlying31 Ty.i5 rfl rfl rfl rfl fun b18 hb18 => ?_)
    cases own
    · obtain ⟨rfl, rfl, rfl⟩ := hno rfl
      simp only [e0]
      refine x_op rfl (s_appB_full (l := l) (z := [leB n 0]) Tryd.underlying31 Ty.i5 rfl (fun w hO => hO.rd0 hr) hl0 rfl (by simp) (fun w hO => hO.rd_bl (i := 0) rfl rfl (by simp [maxLen]) rfl) rfl (by simp only [List.length_singleton]; omega) fun A2 c2 hk2 => ?_)
      refine x_op rfl (x_val (r_assign rfl) rfl ?_)
      refine x_nil ?_
      refine x_region ?_
      refine x_op rfl (x_val (r_add rfl rfl ⟨by omega, by omega⟩) rfl ?_)
      refine x_op rfl (x_val (r_move rfl) rfl ?_)
      refine x_nil ?_
      have e1 : l ++ le n (0 + 1) = l ++ [leB n 0] := by rw [le_succ, ← List.append_assoc, e0]
      refine x_again (s := (0, A1, l.length, false)) ((0 + 1, A2, c2, true)) (by simp only [e1]; repeat (first | exact trivial | refine ⟨rfl, ?_⟩)) (fun _ h => by simp only [e1]; exact h.pick_ [0] (by decide)) ⟨by omega, fun _ => by simp only [e1]; exact hk2, fun h => (by cases h)⟩ (by simp only []; omega)
    · have hk1 := hk1' rfl
      have hll : (l ++ le n i).length = l.length + i := by rw [List.length_append, le_length]
      refine x_op rfl (s_appB (i := 1) (A := A1) (cap := c1) (l := l ++ le n i) (z := [leB n i]) Tryd.underlying31 Ty.i5 rfl rfl rfl rfl hk1 (fun w hO => hO.rd_bl (i := 0) rfl rfl (by simp [maxLen]) rfl) (by simp only [List.length_singleton]; omega) fun A2 c2 hk2 => ?_)
      refine x_op rfl (x_val (r_assign rfl) rfl ?_)
      refine x_nil ?_
      refine x_region ?_
      refine x_op rfl (x_val (r_add rfl rfl ⟨by omega, by omega⟩) rfl ?_)
      refine x_op rfl (x_val (r_move rfl) rfl ?_)
      refine x_nil ?_
      have e1 : l ++ le n (i + 1) = l ++ le n i ++ [leB n i] := by rw [le_succ, List.append_assoc]
      refine x_again (s := (i, A1, c1, true)) ((i + 1, A2, c2, true)) (by simp only [e1]; repeat (first | exact trivial | refine ⟨rfl, ?_⟩)) (fun _ h => by simp only [e1]; exact h.pick_ [1] (by decide)) ⟨by omega, fun _ => by simp only [e1]; exact hk2, fun h => (by cases h)⟩ (by simp only []; omega)
  · refine x_nil ?_
    refine x_seq ?_
    refine x_false rfl ?_
    refine x_exit rfl ?_
    refine x_seq ?_
    refine x_region ?_
    refine x_op rfl (x_val (r_move rfl) rfl ?_)
    refine x_op rfl (x_val (r_assign rfl) rfl ?_)
    refine x_nil ?_
    refine x_ret ?_
    -- path F
    have hik : i = k := by omega
    subst hik
    cases own
    · have := (hno rfl).1; omega
    exact x_ret1 rfl rfl fun w1 hO => ⟨_, rfl, A1, c1, rfl, hk1' rfl, hO⟩
set_option maxRecDepth 20000 in
theorem part2_ (A : Option Addr) (l : List UInt8) (s : ByteArray) (B : Option Addr) (c : Nat) (z : List UInt8) (w : World) (hl0 : 0 < l.length) (hs0 : 0 < s.size) (hr : Rd w A l.length 1 (u8s l))
    (hB : Rd w B z.length 1 (u8s z)) (hl : l.length + s.size + z.length ≤ 100000000) :
    Calls Tryd.prog 29 #[.slice A l.length l.length, .string s, .slice B z.length c] w fun en w1 => ∃ r, en = .returned r ∧ ∃ A' cap', r = .slice A' (partF l s.data.toList z).length cap' ∧ BOk A' cap' (partF l s.data.toList z) ∧ Own w [] [SB 5 A' cap' (partF l s.data.toList z)] w1 := by
  refine fn_enter (args := [_, _, _]) (F := []) Tryd.func29 rfl rfl rfl ?_
  have hs : s.data.toList.length = s.size := Array.length_toList
  refine x_seq ?_
  refine x_region ?_
  refine x_op rfl (x_val (r_assign rfl) rfl ?_)
  refine x_nil ?_
  refine x_seq ?_
  refine x_region ?_
  refine x_op rfl (x_val (r_move rfl) rfl ?_)
  refine x_op rfl (x_val (r_move rfl) rfl ?_)
  refine x_op rfl (s_appS_full Tryd.underlying31 Tryd.underlying9 Ty.i5 rfl (fun w hO => hO.rd0 hr) hl0 rfl hs0 rfl (by omega) fun A1 c1 hk1 => ?_)
  refine x_op rfl (x_val (r_move rfl) rfl ?_)
  refine x_op rfl (x_val (r_len_slice Tryd.underlying31 rfl) rfl ?_)
  refine x_op rfl (s_call Ty.c15 rfl rfl (fun w hw => low_ A1 c1 (l ++ s.data.toList) z.length 4 w hk1 (hw.sub_ [0] (by decide)) (by rw [List.length_append]; omega) (by omega)) (fun wq v wq1 hw h => ?_))
  obtain ⟨A2, c2, rfl, hk2, hO⟩ := h
  refine ⟨_, hw.swap_ [0] [] (by decide) hO, ?_⟩
  refine x_nf (L' := [_]) rfl ?_
  refine x_op rfl (x_val (r_move rfl) rfl ?_)
  refine x_op rfl (s_appB (i := 0) (z := z) Tryd.underlying31 Ty.i5 rfl rfl rfl rfl hk2 (fun w hO => hO.rd0 hB) (by simp only [List.length_append, le_length]; omega) fun A3 c3 hk3 => ?_)
  refine x_op rfl (x_val (r_assign rfl) rfl ?_)
  refine x_nil ?_
  refine x_seq ?_
  refine x_region ?_
  refine x_op rfl (x_val (r_move rfl) rfl ?_)
  refine x_op rfl (x_val (r_move rfl) rfl ?_)
  refine x_op rfl (x_val (r_len_slice Tryd.underlying31 rfl) rfl ?_)
  refine x_op rfl (x_val (r_rem rfl rfl ⟨by omega, by omega, by omega⟩) rfl ?_)
  refine x_op rfl (s_appZ (i := 0) (m := z.length % 2) Tryd.underlying31 Tryd.underlying3 Tryd.underlying9 Ty.i5 rfl rfl rfl rfl hk3 (by omega) (by simp only [List.length_append, le_length]; omega) fun A4 c4 hk4 => ?_)
  refine x_op rfl (x_val (r_assign rfl) rfl ?_)
  refine x_nil ?_
  refine x_ret ?_
  -- path 
  exact x_ret1 rfl rfl fun w1 hO => ⟨_, rfl, A4, c4, rfl, hk4, hO⟩
end Go.Proofs.YtlpoepmipbegaaaDoor.Wv
