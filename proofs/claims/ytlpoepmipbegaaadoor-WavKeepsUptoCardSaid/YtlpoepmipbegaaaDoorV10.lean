/- A file's shape is read. -/
import Derived.Test.YtlpoepmipbegaaaDoorV9
set_option linter.unusedVariables false
set_option linter.unusedSimpArgs false
namespace Go.Proofs.YtlpoepmipbegaaaDoor.Wv
open Go Go.RowKit Go.Proofs.YtlpoepmipbegaaaDoor.En
abbrev fmtL : List UInt8 := [102, 109, 116, 32]
abbrev tagsL : List UInt8 := [116, 97, 103, 115]
abbrev dataL : List UInt8 := [100, 97, 116, 97]
abbrev formSeq (ch dp rt : Int) (rest : List UInt8) : List UInt8 := fmtL ++ (le 16 4 ++ (le 1 2 ++ (le ch 2 ++ (le rt 4 ++ (le (rt * blk ch dp) 4 ++ (le (blk ch dp) 2 ++ (le dp 2 ++ rest)))))))
theorem FCheck0_ (ch dp rt : Int) (w : World) (h : 1 ≤ ch ∧ ch ≤ 2 ∧ 4 ≤ dp ∧ dp ≤ 24 ∧ 1 ≤ rt ∧ rt ≤ 655350) :
    Calls Tryd.prog 24 #[.agg #[.int .i64 ch, .int .i64 dp, .int .i64 rt]] w fun en w1 => ∃ r, en = .returned r ∧ (r = .int .i64 0 ∧ Own w [] [] w1) := by
  have := FCheck_ ch dp rt w
  rw [show fcheck ch dp rt = 0 by unfold fcheck; rw [if_pos h]] at this
  exact this
set_option maxHeartbeats 1000000 in
set_option maxRecDepth 20000 in
theorem form_ (bi : Nat) (B : Option Addr) (m c : Nat) (ch dp rt : Int) (rest : List UInt8) (w : World) (hsh : 1 ≤ ch ∧ ch ≤ 2 ∧ 4 ≤ dp ∧ dp ≤ 24 ∧ 1 ≤ rt ∧ rt ≤ 655350) (hC : Cur w [bi] B m c (formSeq ch dp rt rest)) (hO : Own w [bi] [bl bi 56 #[.slice B m c, .bool false]] w) :
    Calls Tryd.prog 32 #[.pointer (me bi)] w fun en w1 => ∃ r, en = .returned r ∧ (r = .agg #[.int .i64 ch, .int .i64 dp, .int .i64 rt] ∧ ∃ B' m' c', Cur w [bi] B' m' c' rest ∧ (∀ w' F', Cur w' F' B m c (formSeq ch dp rt rest) → Cur w' F' B' m' c' rest) ∧ Own w [bi] [bl bi 56 #[.slice B' m' c', .bool false]] w1) := by
  have hb := blk_bd (ch := ch) (dp := dp) (by omega) (by omega)
  have hr := rblk_bd (ch := ch) (dp := dp) (rt := rt) (by omega) (by omega) (by omega)
  have p2 : (256 : Int) ^ 2 = 65536 := by decide
  have p4 : (256 : Int) ^ 4 = 4294967296 := by decide
  refine fn_enterF (args := [_]) hO Tryd.func32 rfl rfl rfl ?_
  refine x_seq ?_
  refine x_region ?_
  refine x_op rfl (s_alloc Ty.i23 rfl fun b2 hb2 => ?_)
  refine x_nil ?_
  refine x_seq ?_
  refine x_region ?_
  refine x_op rfl (s_alloc Ty.i23 rfl fun b3 hb3 => ?_)
  refine x_nil ?_
  refine x_seq ?_
  refine x_region ?_
  refine x_op rfl (x_val (r_move rfl) rfl ?_)
  refine x_op rfl (s_call Ty.c30 rfl rfl (fun w hw => mustC hw (i := 2) rfl hC (by have := hC.len; simp only [List.length_append, le_length] at this; omega)) (fun wq v wq1 hw h => ?_))
  obtain ⟨rfl, B1, m1, c1, hC1, hD1, hO⟩ := h
  refine ⟨_, hw.swap_ [2] [0, 1] (by decide) hO, ?_⟩
  refine x_nf (L' := [_, bl _ _ #[_, _, _], bl _ _ #[_, _, _]]) rfl ?_
  refine x_nil ?_
  refine x_seq ?_
  refine x_region ?_
  refine x_op rfl (x_val (r_move rfl) rfl ?_)
  refine x_op rfl (s_call Ty.c31 rfl rfl (fun w hw => wantC hw (i := 0) (k := 4) rfl hC1 (by have := hC1.len; simp only [List.length_append, le_length] at this; omega) (le_length 16 4) (by decide) (leV_zero 16 4 (by decide)).symm) (fun wq v wq1 hw h => ?_))
  obtain ⟨rfl, B2, m2, c2, hC2, hD2, hO⟩ := h
  refine ⟨_, hw.swap_ [0] [1, 2] (by decide) hO, ?_⟩
  refine x_nf (L' := [_, bl _ _ #[_, _, _], bl _ _ #[_, _, _]]) rfl ?_
  refine x_nil ?_
  refine x_seq ?_
  refine x_region ?_
  refine x_op rfl (x_val (r_move rfl) rfl ?_)
  refine x_op rfl (s_call Ty.c31 rfl rfl (fun w hw => wantC hw (i := 0) (k := 2) rfl hC2 (by have := hC2.len; simp only [List.length_append, le_length] at this; omega) (le_length 1 2) (by decide) (leV_zero 1 2 (by decide)).symm) (fun wq v wq1 hw h => ?_))
  obtain ⟨rfl, B3, m3, c3, hC3, hD3, hO⟩ := h
  refine ⟨_, hw.swap_ [0] [1, 2] (by decide) hO, ?_⟩
  refine x_nf (L' := [_, bl _ _ #[_, _, _], bl _ _ #[_, _, _]]) rfl ?_
  refine x_nil ?_
  refine x_seq ?_
  refine x_region ?_
  refine x_op rfl (x_val (r_move rfl) rfl ?_)
  refine x_op rfl (s_call Ty.c19 rfl rfl (fun w hw => numberL hw (i := 0) (n := ch) (k := 2) rfl hC3 (by omega) (by have := hC3.len; simp only [List.length_append, le_length] at this; omega) (by omega)) (fun wq v wq1 hw h => ?_))
  obtain ⟨rfl, B4, m4, c4, hC4, hD4, hO⟩ := h
  refine ⟨_, hw.swap_ [0] [1, 2] (by decide) hO, ?_⟩
  refine x_nf (L' := [_, bl _ _ #[_, _, _], bl _ _ #[_, _, _]]) rfl ?_
  refine x_op rfl (x_val (r_fieldAddr Ty.q23_0 rfl) rfl ?_)
  refine x_op rfl (s_store (i := 1) Ty.z3 rfl rfl rfl rfl rfl rfl ?_)
  refine x_nf (L' := [_, bl _ _ #[_, _, _], bl _ _ #[_, _, _]]) rfl ?_
  refine x_nil ?_
  refine x_seq ?_
  refine x_region ?_
  refine x_op rfl (x_val (r_move rfl) rfl ?_)
  refine x_op rfl (s_call Ty.c19 rfl rfl (fun w hw => numberL hw (i := 0) (n := rt) (k := 4) rfl hC4 (by omega) (by have := hC4.len; simp only [List.length_append, le_length] at this; omega) (by omega)) (fun wq v wq1 hw h => ?_))
  obtain ⟨rfl, B5, m5, c5, hC5, hD5, hO⟩ := h
  refine ⟨_, hw.swap_ [0] [1, 2] (by decide) hO, ?_⟩
  refine x_nf (L' := [_, bl _ _ #[_, _, _], bl _ _ #[_, _, _]]) rfl ?_
  refine x_op rfl (x_val (r_fieldAddr Ty.q23_2 rfl) rfl ?_)
  refine x_op rfl (s_store (i := 1) Ty.z3 rfl rfl rfl rfl rfl rfl ?_)
  refine x_nf (L' := [_, bl _ _ #[_, _, _], bl _ _ #[_, _, _]]) rfl ?_
  refine x_nil ?_
  refine x_seq ?_
  refine x_region ?_
  refine x_op rfl (x_val (r_move rfl) rfl ?_)
  refine x_op rfl (s_call Ty.c19 rfl rfl (fun w hw => numberL hw (i := 0) (n := rt * blk ch dp) (k := 4) rfl hC5 (by omega) (by have := hC5.len; simp only [List.length_append, le_length] at this; omega) (by omega)) (fun wq v wq1 hw h => ?_))
  obtain ⟨rfl, B6, m6, c6, hC6, hD6, hO⟩ := h
  refine ⟨_, hw.swap_ [0] [1, 2] (by decide) hO, ?_⟩
  refine x_nf (L' := [_, bl _ _ #[_, _, _], bl _ _ #[_, _, _]]) rfl ?_
  refine x_op rfl (x_val (r_move rfl) rfl ?_)
  refine x_op rfl (s_call Ty.c19 rfl rfl (fun w hw => numberL hw (i := 0) (n := blk ch dp) (k := 2) rfl hC6 (by omega) (by have := hC6.len; simp only [List.length_append, le_length] at this; omega) (by omega)) (fun wq v wq1 hw h => ?_))
  obtain ⟨rfl, B7, m7, c7, hC7, hD7, hO⟩ := h
  refine ⟨_, hw.swap_ [0] [1, 2] (by decide) hO, ?_⟩
  refine x_nf (L' := [_, bl _ _ #[_, _, _], bl _ _ #[_, _, _]]) rfl ?_
  refine x_op rfl (x_val (r_assign rfl) rfl ?_)
  refine x_op rfl (x_val (r_assign rfl) rfl ?_)
  refine x_nil ?_
  refine x_seq ?_
  refine x_region ?_
  refine x_op rfl (x_val (r_move rfl) rfl ?_)
  refine x_op rfl (s_call Ty.c19 rfl rfl (fun w hw => numberL hw (i := 0) (n := dp) (k := 2) rfl hC7 (by omega) (by have := hC7.len; simp only [List.length_append, le_length] at this; omega) (by omega)) (fun wq v wq1 hw h => ?_))
  obtain ⟨rfl, B8, m8, c8, hC8, hD8, hO⟩ := h
  refine ⟨_, hw.swap_ [0] [1, 2] (by decide) hO, ?_⟩
  refine x_nf (L' := [_, bl _ _ #[_, _, _], bl _ _ #[_, _, _]]) rfl ?_
  refine x_op rfl (x_val (r_fieldAddr Ty.q23_1 rfl) rfl ?_)
  refine x_op rfl (s_store (i := 1) Ty.z3 rfl rfl rfl rfl rfl rfl ?_)
  refine x_nf (L' := [_, bl _ _ #[_, _, _], bl _ _ #[_, _, _]]) rfl ?_
  refine x_nil ?_
  refine x_seq ?_
  refine x_textP [1, 2] (by kernel_rfl) (by decide) ?_
  refine x_tk rfl (r_move rfl) rfl (fun _ h => h.pick_ [1, 2] (by decide)) ?_
  refine x_tk rfl (r_move rfl) rfl (fun _ h => h.pick_ [1, 2] (by decide)) ?_
  refine x_tk rfl (r_nilCheck rfl) rfl (fun _ h => h.pick_ [1, 2] (by decide)) ?_
  refine x_tk rfl (r_fieldAddr Ty.q56_1 rfl) rfl (fun _ h => h.pick_ [1, 2] (by decide)) ?_
  refine x_tany ?_
  refine x_all [4] (by kernel_rfl) ⟨?_, trivial⟩
  refine x_do rfl rfl (x_val (r_own_add (i := 0) Ty.z4 rfl rfl rfl) rfl (x_and (fun _ h => h.pick_ [1, 2] (by decide)) ?_))
  refine x_take 5 rfl (by kernel_rfl) rfl (r_move rfl) rfl (fun _ h => h.pick_ [1, 2] (by decide)) ?_
  refine x_take 6 rfl (by kernel_rfl) rfl (r_ownN (i := 0) Ty.z23 rfl rfl rfl) rfl (fun _ h => h.pick_ [1, 2] (by decide)) ?_
  refine x_all [7] (by kernel_rfl) ⟨?_, trivial⟩
  refine x_do rfl rfl (s_call Ty.c24 rfl rfl (fun w hw => FCheck0_ ch dp rt w hsh) (fun wq v wq1 hw h => ?_))
  obtain ⟨rfl, hO⟩ := h
  refine ⟨_, hw.call0 hO, x_and (fun _ h => h.pick_ [1, 2] (by decide)) ?_⟩
  refine x_nf (L' := [_, bl _ _ #[_, _, _], bl _ _ #[_, _, _]]) rfl ?_
  refine x_take 8 rfl (by kernel_rfl) rfl (r_neq (r := false) rfl rfl (by simp)) rfl (fun _ h => h.pick_ [1, 2] (by decide)) ?_
  refine x_take 9 rfl (by kernel_rfl) rfl (r_pick_f rfl rfl) rfl (fun _ h => h.pick_ [1, 2] (by decide)) ?_
  refine x_take 10 rfl (by kernel_rfl) rfl (r_move rfl) rfl (fun _ h => h.pick_ [1, 2] (by decide)) ?_
  refine x_take 11 rfl (by kernel_rfl) rfl (r_move rfl) rfl (fun _ h => h.pick_ [1, 2] (by decide)) ?_
  refine x_take 12 rfl (by kernel_rfl) rfl (r_fieldAddr Ty.q23_2 rfl) rfl (fun _ h => h.pick_ [1, 2] (by decide)) ?_
  refine x_take 13 rfl (by kernel_rfl) rfl (r_own_add (i := 0) Ty.z3 rfl rfl rfl) rfl (fun _ h => h.pick_ [1, 2] (by decide)) ?_
  refine x_take 14 rfl (by kernel_rfl) rfl (r_ownN (i := 0) Ty.z23 rfl rfl rfl) rfl (fun _ h => h.pick_ [1, 2] (by decide)) ?_
  refine x_all [15] (by kernel_rfl) ⟨?_, trivial⟩
  refine x_do rfl rfl (s_call Ty.c21 rfl rfl (fun w hw => block_ ch dp rt w (by omega) (by omega) (by omega)) (fun wq v wq1 hw h => ?_))
  obtain ⟨rfl, hO⟩ := h
  refine ⟨_, hw.call0 hO, x_and (fun _ h => h.pick_ [1, 2] (by decide)) ?_⟩
  refine x_nf (L' := [_, bl _ _ #[_, _, _], bl _ _ #[_, _, _]]) rfl ?_
  refine x_take 16 rfl (by kernel_rfl) rfl (r_mul rfl rfl ⟨by omega, by omega⟩) rfl (fun _ h => h.pick_ [1, 2] (by decide)) ?_
  refine x_take 17 rfl (by kernel_rfl) rfl (r_neq (r := false) rfl rfl (by simp)) rfl (fun _ h => h.pick_ [1, 2] (by decide)) ?_
  refine x_take 18 rfl (by kernel_rfl) rfl (r_pick_f rfl rfl) rfl (fun _ h => h.pick_ [1, 2] (by decide)) ?_
  refine x_take 19 rfl (by kernel_rfl) rfl (r_move rfl) rfl (fun _ h => h.pick_ [1, 2] (by decide)) ?_
  refine x_take 20 rfl (by kernel_rfl) rfl (r_move rfl) rfl (fun _ h => h.pick_ [1, 2] (by decide)) ?_
  refine x_take 21 rfl (by kernel_rfl) rfl (r_ownN (i := 0) Ty.z23 rfl rfl rfl) rfl (fun _ h => h.pick_ [1, 2] (by decide)) ?_
  refine x_all [22] (by kernel_rfl) ⟨?_, trivial⟩
  refine x_do rfl rfl (s_call Ty.c21 rfl rfl (fun w hw => block_ ch dp rt w (by omega) (by omega) (by omega)) (fun wq v wq1 hw h => ?_))
  obtain ⟨rfl, hO⟩ := h
  refine ⟨_, hw.call0 hO, x_and (fun _ h => h.pick_ [1, 2] (by decide)) ?_⟩
  refine x_nf (L' := [_, bl _ _ #[_, _, _], bl _ _ #[_, _, _]]) rfl ?_
  refine x_take 23 rfl (by kernel_rfl) rfl (r_neq (r := false) rfl rfl (by simp)) rfl (fun _ h => h.pick_ [1, 2] (by decide)) ?_
  refine x_take 24 rfl (by kernel_rfl) rfl (r_pick_f rfl rfl) rfl (fun _ h => h.pick_ [1, 2] (by decide)) ?_
  refine x_take 25 rfl (by kernel_rfl) rfl (r_nilCheck rfl) rfl (fun _ h => h.pick_ [1, 2] (by decide)) ?_
  refine x_take 26 rfl (by kernel_rfl) rfl (r_fieldAddr Ty.q56_1 rfl) rfl (fun _ h => h.pick_ [1, 2] (by decide)) ?_
  refine x_all [27] (by kernel_rfl) ⟨?_, trivial⟩
  refine x_do rfl rfl (s_store (i := 0) Ty.z4 rfl rfl rfl rfl rfl rfl (x_and (fun _ h => h.pick_ [1, 2] (by decide)) ?_))
  refine x_nf (L' := [_, bl _ _ #[_, _, _], bl _ _ #[_, _, _]]) rfl ?_
  refine x_done (by kernel_rfl) ?_
  refine x_seq ?_
  refine x_region ?_
  refine x_op rfl (x_val (r_ownN (i := 1) Ty.z23 rfl rfl rfl) rfl ?_)
  refine x_op rfl (s_store (i := 2) Ty.z23 rfl rfl rfl rfl rfl rfl ?_)
  refine x_nf (L' := [_, bl _ _ #[_, _, _], bl _ _ #[_, _, _]]) rfl ?_
  refine x_nil ?_
  refine x_ret ?_
  -- path 
  exact x_ret1 rfl (res_own (i := 2) (cs := [.int .i64 ch, .int .i64 dp, .int .i64 rt]) rfl rfl Ty.z23 rfl) fun w1 hO => ⟨_, rfl, rfl, B8, m8, c8, hC8, fun w' F' h => hD8 _ _ (hD7 _ _ (hD6 _ _ (hD5 _ _ (hD4 _ _ (hD3 _ _ (hD2 _ _ (hD1 _ _ h))))))), hO.pick_ [0] (by decide)⟩
end Go.Proofs.YtlpoepmipbegaaaDoor.Wv
