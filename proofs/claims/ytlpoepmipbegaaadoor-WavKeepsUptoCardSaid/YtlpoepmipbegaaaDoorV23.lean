/- The law WavKeeps. -/
import Derived.Test.YtlpoepmipbegaaaDoorV22
set_option linter.unusedVariables false
set_option linter.unusedSimpArgs false
namespace Go.Proofs.YtlpoepmipbegaaaDoor.Wv
open Go Go.RowKit Go.Proofs.YtlpoepmipbegaaaDoor.En
set_option maxHeartbeats 8000000 in
set_option maxRecDepth 20000 in
theorem WavKeeps_ (ch dp rt : Int) (T C : Option Addr) (n ct cc : Nat) (ts : List ByteArray) (vs : List Sv) (chs : List (List Int)) (w : World) (hn : n = vs.length) (hT : Rd w T ts.length 1 (strs ts)) (hC : Rd w C n 1 (slcs vs)) (hch : ChOk w vs chs) (hm : ts.length ≤ 2000000) (hn2 : n ≤ 2000000) (hvb : ∀ v ∈ vs, v.2.1 ≤ 2000000) (hts : ∀ t ∈ ts, t.size < 4294967281) (hg : Glob w) :
    Calls Tryd.prog 3 #[.agg #[.int .i64 ch, .int .i64 dp, .int .i64 rt, .slice T ts.length ct, .slice C n cc]] w fun en w1 => ∃ r, en = .returned r ∧ (r = .bool true ∧ Own w [] [] w1) := by
  have hlen := hch.1
  refine fn_enter (args := [_]) (F := []) Tryd.func3 rfl rfl rfl ?_
  refine x_seq ?_
  refine x_region ?_
  refine x_op rfl (s_box rfl rfl fun b1 hb1 => ?_)
  refine x_op rfl (x_val (r_assign rfl) rfl ?_)
  refine x_nil ?_
  refine x_seq ?_
  refine x_seq ?_
  refine x_region ?_
  refine x_op rfl (s_call Ty.c4 rfl rfl (fun w hw => rings_ w (hw.glob hg)) (fun wq v wq1 hw h => ?_))
  obtain ⟨rfl, hO⟩ := h
  refine ⟨_, hw.call0 hO, ?_⟩
  refine x_nf (L' := [bl _ _ #[_, _, _, _, _]]) rfl ?_
  refine x_op rfl (x_val (r_not rfl rfl) rfl ?_)
  refine x_nil ?_
  refine x_false rfl ?_
  refine x_skip ?_
  refine x_seq ?_
  refine x_region ?_
  refine x_op rfl (x_val (r_ownN (i := 0) Ty.z27 rfl rfl rfl) rfl ?_)
  refine x_op rfl (s_call Ty.c5 rfl rfl (fun w hw => tune_ ch dp rt T C ts.length n ct cc ts vs chs w hn (hw.rd0 hT) (hw.rd0 hC) (hch.keep hw) hm hn2 hvb) (fun wq v wq1 hw h => ?_))
  obtain ⟨T1, ct1, M, cM, us, Z, rfl, hT1, hus, hM, hZ, hO⟩ := h
  refine ⟨_, hw.call0 hO, ?_⟩
  refine x_heap (fun w hO => Own.rotT (a := [_, _]) (b := [_]) hO) ?_
  refine x_nf (L' := _ :: _ :: bl _ _ #[_, _, _, _, _] :: _) rfl ?_
  refine x_op rfl (s_alloc Ty.i29 rfl fun b3 hb3 => ?_)
  refine x_op rfl (s_store (i := 0) Ty.z29 rfl rfl rfl rfl rfl rfl ?_)
  refine x_nf (L' := bl _ _ #[_, _, _, _, _] :: _ :: _ :: bl _ _ #[_, _, _, _, _] :: _) rfl ?_
  refine x_nil ?_
  refine x_seq ?_
  refine x_region ?_
  rcases okCases (ch := ch) (dp := dp) (rt := rt) (ts := ts) (chs := chs) (n := n) (by omega) with ⟨xs, ys, rfl, rfl, hP, hok⟩ | hbad
  · refine x_op rfl (x_val (r_ownN (i := 0) Ty.z29 rfl rfl rfl) rfl ?_)
    refine x_op rfl (s_call Ty.c6 rfl rfl (fun w hw => EncodeOk n dp rt T1 M ct1 cM ts us xs ys w hus hok (hw.rd_sl (i := 1) rfl hT1) hts (by omega) (hw.rd_sl (i := 2) rfl hM) (hZ.ch hw (fun x hx => by repeat (first | exact hx | apply List.mem_cons_of_mem))) (by omega) (hw.glob hg)) (fun wq v wq1 hw h => ?_))
    obtain ⟨E1, ce, rfl, hE, hO⟩ := h
    refine ⟨_, hw.call0 hO, ?_⟩
    refine x_nf (L' := _ :: bl _ _ #[_, _, _, _, _] :: _ :: _ :: bl _ _ #[_, _, _, _, _] :: _) rfl ?_
    refine x_op rfl (x_val (r_move rfl) rfl ?_)
    refine x_op rfl (x_val (r_extract rfl rfl) rfl ?_)
    refine x_op rfl (x_val (r_extract rfl rfl) rfl ?_)
    refine x_op rfl (x_val (r_assign rfl) rfl ?_)
    refine x_op rfl (x_val (r_assign rfl) rfl ?_)
    refine x_nil ?_
    refine x_seq ?_
    refine x_seq ?_
    refine x_textP [0, 1, 2, 3, 4] (by kernel_rfl) (by decide) ?_
    refine x_tk rfl (r_ownN (i := 1) Ty.z29 rfl rfl rfl) rfl (fun _ h => h.pick_ [0, 1, 2, 3, 4] (by decide)) ?_
    refine x_tany ?_
    refine x_take 2 rfl (by kernel_rfl) rfl (r_ownN (i := 4) Ty.z27 rfl rfl rfl) rfl (fun _ h => h.pick_ [0, 1, 2, 3, 4] (by decide)) ?_
    refine x_all [1] (by kernel_rfl) ⟨?_, trivial⟩
    refine x_do rfl rfl (s_call Ty.c8 rfl rfl (fun w hw => score_ n dp rt T1 M ts.length n ct1 cM w) (fun wq v wq1 hw h => ?_))
    obtain ⟨rfl, hO⟩ := h
    refine ⟨_, hw.call0 hO, x_and (fun _ h => h.pick_ [0, 1, 2, 3, 4] (by decide)) ?_⟩
    refine x_nf (L' := _ :: bl _ _ #[_, _, _, _, _] :: _ :: _ :: bl _ _ #[_, _, _, _, _] :: _) rfl ?_
    refine x_all [3] (by kernel_rfl) ⟨?_, trivial⟩
    refine x_do rfl rfl (s_call Ty.c7 rfl rfl (fun w hw => Same11_ n dp rt T1 T M C ts.length n ct1 ct cM cc ts us vs (pairOf n xs ys) w rfl hus hn (hw.rd_sl (i := 2) rfl hT1) (hw.rd0 hT) (hw.rd_sl (i := 3) rfl hM) (hw.rd0 hC) (hZ.ch hw (fun x hx => by repeat (first | exact hx | apply List.mem_cons_of_mem))) (hch.keep hw)) (fun wq v wq1 hw h => ?_))
    obtain ⟨rfl, hO⟩ := h
    refine ⟨_, hw.call0 hO, x_and (fun _ h => h.pick_ [0, 1, 2, 3, 4] (by decide)) ?_⟩
    refine x_nf (L' := _ :: bl _ _ #[_, _, _, _, _] :: _ :: _ :: bl _ _ #[_, _, _, _, _] :: _) rfl ?_
    refine x_take 4 rfl (by kernel_rfl) rfl (r_not rfl rfl) rfl (fun _ h => h.pick_ [0, 1, 2, 3, 4] (by decide)) ?_
    refine x_take 5 rfl (by kernel_rfl) rfl (r_move rfl) rfl (fun _ h => h.pick_ [0, 1, 2, 3, 4] (by decide)) ?_
    refine x_take 6 rfl (by kernel_rfl) rfl (r_move rfl) rfl (fun _ h => h.pick_ [0, 1, 2, 3, 4] (by decide)) ?_
    refine x_take 7 rfl (by kernel_rfl) rfl (r_neq rfl rfl rfl) rfl (fun _ h => h.pick_ [0, 1, 2, 3, 4] (by decide)) ?_
    refine x_take 8 rfl (by kernel_rfl) rfl (r_pick_f rfl rfl) rfl (fun _ h => h.pick_ [0, 1, 2, 3, 4] (by decide)) ?_
    refine x_done (by kernel_rfl) ?_
    refine x_false rfl ?_
    refine x_skip ?_
    refine x_seq ?_
    refine x_heap (fun w h => h.pick_ [0, 4] (by decide)) ?_
    refine x_nf (L' := [_, bl _ _ #[_, _, _, _, _]]) rfl ?_
    obtain ⟨hds, hm0, hq4, hfs⟩ := file_small hP hok
    have hfs2 : (fileB (n : Int) dp rt ts (dataB dp (pairOf n xs ys) xs.length)).length ≤ 1000000 := hfs
    refine x_region ?_
    refine x_op rfl (x_val (r_move rfl) rfl ?_)
    refine x_op rfl (x_val (r_len_slice Tryd.underlying31 rfl) rfl ?_)
    refine x_op rfl (x_val (r_add rfl rfl ⟨by omega, by omega⟩) rfl ?_)
    refine x_op rfl (s_makeBytesRoom ((encP n dp rt ts xs ys).length + 4) Tryd.underlying31 Ty.i5 rfl rfl rfl (by omega) (by omega) fun bF hbF => ?_)
    refine x_op rfl (x_val (r_move rfl) rfl ?_)
    refine x_op rfl (s_fillRoom (i := 0) (k := 4) (l := encP n dp rt ts xs ys) Tryd.underlying31 Ty.i5 rfl rfl rfl rfl (fun w hO => hO.rd_sl (i := 1) rfl hE) (?_))
    refine x_op rfl (x_val (r_assign rfl) rfl ?_)
    refine x_nil ?_
    refine x_seq ?_
    refine x_region ?_
    refine x_op rfl (x_val (r_move rfl) rfl ?_)
    refine x_op rfl (s_call Ty.c9 rfl rfl (fun w hw => Decode_ n dp rt ts xs ys (some ⟨bF, 0, none⟩) ((encP n dp rt ts xs ys).length + 4) w hP hok (by omega) (by omega) (rdFile hw (i := 0) rfl (by simp only [maxLen]; omega)) (hw.glob hg)) (fun wq v wq1 hw h => ?_))
    obtain ⟨T2, ct2, bM, A0, c0, A1, c1, rfl, hT2, hA0, hA1, hO⟩ := h
    refine ⟨_, hw.call0 hO, ?_⟩
    refine x_nf (L' := [_, _, _, _, _, _, bl _ _ #[_, _, _, _, _]]) rfl ?_
    refine x_op rfl (x_val (r_move rfl) rfl ?_)
    refine x_op rfl (x_val (r_extract rfl rfl) rfl ?_)
    refine x_op rfl (x_val (r_extract rfl rfl) rfl ?_)
    refine x_op rfl (s_alloc Ty.i29 rfl fun b7 hb7 => ?_)
    refine x_op rfl (s_store (i := 0) Ty.z29 rfl rfl rfl rfl rfl rfl ?_)
    refine x_nf (L' := [bl _ _ #[_, _, _, _, _], _, _, _, _, _, _, bl _ _ #[_, _, _, _, _]]) rfl ?_
    refine x_op rfl (x_val (r_assign rfl) rfl ?_)
    refine x_nil ?_
    refine x_seq ?_
    refine x_region ?_
    refine x_op rfl (x_val (r_move rfl) rfl ?_)
    refine x_op rfl (s_call Ty.c10 rfl rfl (fun w hw => Slice_ n dp rt ts (dataB dp (pairOf n xs ys) xs.length) (some ⟨bF, 0, none⟩) ((encP n dp rt ts xs ys).length + 4) w hok.shape hok.tagsN hok.tags hm0 hq4 (by omega) (Nat.le_add_right _ 4) (by omega) (rdFile hw (i := 5) rfl (by simp only [maxLen]; omega)) (hw.glob hg)) (fun wq v wq1 hw h => ?_))
    obtain ⟨l1, S1, cs1, rfl, hS1, hO⟩ := h
    refine ⟨_, hw.call0 hO, ?_⟩
    refine x_nf (L' := [_, bl _ _ #[_, _, _, _, _], _, _, _, _, _, _, bl _ _ #[_, _, _, _, _]]) rfl ?_
    refine x_op rfl (x_val (r_move rfl) rfl ?_)
    refine x_op rfl (x_val (r_extract rfl rfl) rfl ?_)
    refine x_op rfl (x_val (r_extract rfl rfl) rfl ?_)
    refine x_op rfl (x_val (r_assign rfl) rfl ?_)
    refine x_op rfl (x_val (r_assign rfl) rfl ?_)
    refine x_nil ?_
    refine x_seq ?_
    refine x_region ?_
    refine x_op rfl (x_val (r_move rfl) rfl ?_)
    refine x_op rfl (x_val (r_move rfl) rfl ?_)
    refine x_op rfl (x_val (r_move rfl) rfl ?_)
    refine x_op rfl (x_val (r_len_slice Tryd.underlying31 rfl) rfl ?_)
    refine x_op rfl (x_val (r_move rfl) rfl ?_)
    refine x_op rfl (x_val (r_len_slice Tryd.underlying31 rfl) rfl ?_)
    refine x_op rfl (x_val (r_slice_himax Tryd.underlying31 Ty.i5 rfl rfl rfl ⟨Nat.le_refl _, Nat.le_add_right _ 4⟩) rfl ?_)
    refine x_op rfl (s_call Ty.c11 rfl rfl (fun w hw => Join_ n dp rt ts (dataB dp (pairOf n xs ys) xs.length) (some ⟨bF, 0, none⟩) ((encP n dp rt ts xs ys).length + 4) (encP n dp rt ts xs ys).length w hok.shape hok.tagsN hok.tags hm0 hq4 (by omega) (Nat.le_add_right _ 4) (by omega) (Nat.le_refl _) (by omega) (rdFile hw (i := 6) rfl (by simp only [maxLen]; omega)) (hw.glob hg)) (fun wq v wq1 hw h => ?_))
    obtain ⟨e2, l2, J1, cj1, rfl, he2, hJ1, hO⟩ := h
    refine ⟨_, hw.call0 hO, ?_⟩
    refine x_nf (L' := [_, _, bl _ _ #[_, _, _, _, _], _, _, _, _, _, _, bl _ _ #[_, _, _, _, _]]) rfl ?_
    refine x_op rfl (x_val (r_move rfl) rfl ?_)
    refine x_op rfl (x_val (r_extract rfl rfl) rfl ?_)
    refine x_op rfl (x_val (r_extract rfl rfl) rfl ?_)
    refine x_op rfl (x_val (r_assign rfl) rfl ?_)
    refine x_op rfl (x_val (r_assign rfl) rfl ?_)
    refine x_nil ?_
    refine x_seq ?_
    refine x_seq ?_
    have hz1 := sl_small hA0
    have hz2 := sl_small hA1
    have hz3 := sl_small hS1
    have hz4 := sl_small hJ1
    refine x_heap (fun w h => Own.forget (i := 0) (Own.forget (i := 1) (Own.forget (i := 6) (Own.forget (i := 5) h rfl) rfl) rfl) rfl) ?_
    refine x_region ?_
    refine x_op rfl (x_val (r_assign rfl) rfl ?_)
    refine x_nil ?_
    refine x_block ?_
    refine x_loopP (σ := Nat) [1, 4, 5, 6, 7, 8, 9, 10, 11] [0, 1, 2, 3, 4, 5, 6, 7, 8, 9] (fun s => [(12, .int .i64 s)]) (fun s => []) (fun s => s ≤ n) (fun s => n - s) (0) (by repeat (first | exact trivial | refine ⟨rfl, ?_⟩)) (fun _ h => h.pick_ [0, 1, 2, 3, 4, 5, 6, 7, 8, 9] (by decide)) (Nat.zero_le _) ?_
    rintro i hi
    refine x_nfe (e' := [_, _, _, _, _, _, _, _, _, _]) (L' := [_, _, bl _ _ #[_, _, _, _, _], _, _, _, _, _, _, bl _ _ #[_, _, _, _, _]]) rfl rfl ?_
    refine x_seq ?_
    refine x_seq ?_
    refine x_region ?_
    refine x_op rfl (x_val (r_move rfl) rfl ?_)
    refine x_op rfl (x_val (r_fieldAddr Ty.q29_2 rfl) rfl ?_)
    refine x_op rfl (x_val (r_own_add (i := 2) Ty.z25 rfl rfl rfl) rfl ?_)
    refine x_op rfl (x_val (r_len_slice Tryd.underlying25 rfl) rfl ?_)
    refine x_op rfl (x_val (r_lss rfl rfl rfl) rfl (x_dec (fun h73 => ?_) (fun h73 => ?_)))
    · refine x_nil ?_
      refine x_true rfl ?_
      refine x_skip ?_
      refine x_seq ?_
      refine x_block ?_
      refine x_seq ?_
      refine x_region ?_
      rcases (show i = 0 ∨ i = 1 by have := hP.two; omega) with rfl | rfl
      · refine x_op rfl (x_val (r_assign rfl) rfl ?_)
        refine x_nil ?_
        refine x_block ?_
        refine x_loopP (σ := Nat) [1, 4, 5, 6, 7, 8, 9, 10, 11, 12] [0, 1, 2, 3, 4, 5, 6, 7, 8, 9] (fun s => [(13, .int .i64 s)]) (fun s => []) (fun s => s ≤ xs.length) (fun s => xs.length - s) (0) (by repeat (first | exact trivial | refine ⟨rfl, ?_⟩)) (fun _ h => h.pick_ [0, 1, 2, 3, 4, 5, 6, 7, 8, 9] (by decide)) (Nat.zero_le _) ?_
        rintro j hj
        refine x_nfe (e' := [_, _, _, _, _, _, _, _, _, _, _]) (L' := [_, _, bl _ _ #[_, _, _, _, _], _, _, _, _, _, _, bl _ _ #[_, _, _, _, _]]) rfl rfl ?_
        refine x_seq ?_
        refine x_seq ?_
        refine x_region ?_
        refine x_op rfl (x_val (r_move rfl) rfl ?_)
        refine x_op rfl (x_val (r_fieldAddr Ty.q29_2 rfl) rfl ?_)
        refine x_op rfl (x_val (r_own_add (i := 2) Ty.z25 rfl rfl rfl) rfl ?_)
        refine x_op rfl (x_val (r_move rfl) rfl ?_)
        refine x_op rfl (x_val (r_indexAddr Tryd.underlying25 Ty.i41 rfl rfl ⟨by omega, by omega⟩) rfl ?_)
        refine x_op rfl (x_val (r_load1 (v := .slice A0 xs.length c0) Ty.z41 rfl (fun w hS => Own.sv0 hS (i := 4) hP.two rfl)) rfl ?_)
        refine x_op rfl (x_val (r_len_slice Tryd.underlying41 rfl) rfl ?_)
        refine x_op rfl (x_val (r_lss rfl rfl rfl) rfl (x_dec (fun h83 => ?_) (fun h83 => ?_)))
        · refine x_nil ?_
          refine x_true rfl ?_
          refine x_skip ?_
          refine x_seq ?_
          refine x_block ?_
          refine x_region ?_
          have hcc := hA0.2.1
          obtain ⟨g0, rfl⟩ := some_sl hA0 (by omega)
          refine x_op rfl (x_val (r_fieldAddr Ty.q29_2 rfl) rfl ?_)
          refine x_op rfl (x_val (r_own_add (i := 2) Ty.z25 rfl rfl rfl) rfl ?_)
          refine x_op rfl (x_val (r_move rfl) rfl ?_)
          refine x_op rfl (x_val (r_indexAddr Tryd.underlying25 Ty.i41 rfl rfl ⟨by omega, by omega⟩) rfl ?_)
          refine x_op rfl (x_val (r_load1 (v := .slice (some ⟨g0, 0, none⟩) xs.length c0) Ty.z41 rfl (fun w hS => Own.sv0 hS (i := 4) hP.two rfl)) rfl ?_)
          refine x_op rfl (x_val (r_move rfl) rfl ?_)
          refine x_op rfl (x_val (r_indexAddr Tryd.underlying41 Ty.i3 rfl rfl ⟨by omega, by omega⟩) rfl ?_)
          refine x_op rfl (s_storeSl (i := 5) Ty.z3 rfl rfl rfl rfl (by omega) rfl (?_))
          refine x_nf (L' := [_, _, bl _ _ #[_, _, _, _, _], _, _, _, _, _, _, bl _ _ #[_, _, _, _, _]]) rfl ?_
          refine x_nil ?_
          refine x_region ?_
          refine x_op rfl (x_val (r_move rfl) rfl ?_)
          refine x_op rfl (x_val (r_add rfl rfl ⟨by omega, by omega⟩) rfl ?_)
          refine x_op rfl (x_val (r_assign rfl) rfl ?_)
          refine x_nil ?_
          refine x_again (j + 1) (by repeat (first | exact trivial | refine ⟨rfl, ?_⟩)) (fun _ h => h.pick_ [0, 1, 2, 3, 4, 5, 6, 7, 8, 9] (by decide)) (by omega) (by omega)
        · refine x_nil ?_
          refine x_false rfl ?_
          refine x_exit rfl ?_
          refine x_region ?_
          refine x_op rfl (x_val (r_move rfl) rfl ?_)
          refine x_op rfl (x_val (r_add rfl rfl ⟨by omega, by omega⟩) rfl ?_)
          refine x_op rfl (x_val (r_assign rfl) rfl ?_)
          refine x_nil ?_
          refine x_again (1) (by repeat (first | exact trivial | refine ⟨rfl, ?_⟩)) (fun _ h => h.pick_ [0, 1, 2, 3, 4, 5, 6, 7, 8, 9] (by decide)) (by omega) (by omega)
      · refine x_op rfl (x_val (r_assign rfl) rfl ?_)
        refine x_nil ?_
        refine x_block ?_
        refine x_loopP (σ := Nat) [1, 4, 5, 6, 7, 8, 9, 10, 11, 12] [0, 1, 2, 3, 4, 5, 6, 7, 8, 9] (fun s => [(13, .int .i64 s)]) (fun s => []) (fun s => s ≤ ys.length) (fun s => ys.length - s) (0) (by repeat (first | exact trivial | refine ⟨rfl, ?_⟩)) (fun _ h => h.pick_ [0, 1, 2, 3, 4, 5, 6, 7, 8, 9] (by decide)) (Nat.zero_le _) ?_
        rintro j hj
        refine x_nfe (e' := [_, _, _, _, _, _, _, _, _, _, _]) (L' := [_, _, bl _ _ #[_, _, _, _, _], _, _, _, _, _, _, bl _ _ #[_, _, _, _, _]]) rfl rfl ?_
        refine x_seq ?_
        refine x_seq ?_
        refine x_region ?_
        refine x_op rfl (x_val (r_move rfl) rfl ?_)
        refine x_op rfl (x_val (r_fieldAddr Ty.q29_2 rfl) rfl ?_)
        refine x_op rfl (x_val (r_own_add (i := 2) Ty.z25 rfl rfl rfl) rfl ?_)
        refine x_op rfl (x_val (r_move rfl) rfl ?_)
        refine x_op rfl (x_val (r_indexAddr Tryd.underlying25 Ty.i41 rfl rfl ⟨by omega, by omega⟩) rfl ?_)
        refine x_op rfl (x_val (r_load1 (v := .slice A1 ys.length c1) Ty.z41 rfl (fun w hS => Own.sv1 hS (i := 4) (by have := hP.two; omega) rfl)) rfl ?_)
        refine x_op rfl (x_val (r_len_slice Tryd.underlying41 rfl) rfl ?_)
        refine x_op rfl (x_val (r_lss rfl rfl rfl) rfl (x_dec (fun h83 => ?_) (fun h83 => ?_)))
        · refine x_nil ?_
          refine x_true rfl ?_
          refine x_skip ?_
          refine x_seq ?_
          refine x_block ?_
          refine x_region ?_
          have hcc := hA1.2.1
          obtain ⟨g0, rfl⟩ := some_sl hA1 (by omega)
          refine x_op rfl (x_val (r_fieldAddr Ty.q29_2 rfl) rfl ?_)
          refine x_op rfl (x_val (r_own_add (i := 2) Ty.z25 rfl rfl rfl) rfl ?_)
          refine x_op rfl (x_val (r_move rfl) rfl ?_)
          refine x_op rfl (x_val (r_indexAddr Tryd.underlying25 Ty.i41 rfl rfl ⟨by omega, by omega⟩) rfl ?_)
          refine x_op rfl (x_val (r_load1 (v := .slice (some ⟨g0, 0, none⟩) ys.length c1) Ty.z41 rfl (fun w hS => Own.sv1 hS (i := 4) (by have := hP.two; omega) rfl)) rfl ?_)
          refine x_op rfl (x_val (r_move rfl) rfl ?_)
          refine x_op rfl (x_val (r_indexAddr Tryd.underlying41 Ty.i3 rfl rfl ⟨by omega, by omega⟩) rfl ?_)
          refine x_op rfl (s_storeSl (i := 6) Ty.z3 rfl rfl rfl rfl (by omega) rfl (?_))
          refine x_nf (L' := [_, _, bl _ _ #[_, _, _, _, _], _, _, _, _, _, _, bl _ _ #[_, _, _, _, _]]) rfl ?_
          refine x_nil ?_
          refine x_region ?_
          refine x_op rfl (x_val (r_move rfl) rfl ?_)
          refine x_op rfl (x_val (r_add rfl rfl ⟨by omega, by omega⟩) rfl ?_)
          refine x_op rfl (x_val (r_assign rfl) rfl ?_)
          refine x_nil ?_
          refine x_again (j + 1) (by repeat (first | exact trivial | refine ⟨rfl, ?_⟩)) (fun _ h => h.pick_ [0, 1, 2, 3, 4, 5, 6, 7, 8, 9] (by decide)) (by omega) (by omega)
        · refine x_nil ?_
          refine x_false rfl ?_
          refine x_exit rfl ?_
          refine x_region ?_
          refine x_op rfl (x_val (r_move rfl) rfl ?_)
          refine x_op rfl (x_val (r_add rfl rfl ⟨by omega, by omega⟩) rfl ?_)
          refine x_op rfl (x_val (r_assign rfl) rfl ?_)
          refine x_nil ?_
          refine x_again (2) (by repeat (first | exact trivial | refine ⟨rfl, ?_⟩)) (fun _ h => h.pick_ [0, 1, 2, 3, 4, 5, 6, 7, 8, 9] (by decide)) (by omega) (by omega)
    · refine x_nil ?_
      refine x_false rfl ?_
      refine x_exit rfl ?_
      refine x_seq ?_
      refine x_seq ?_
      refine x_region ?_
      refine x_op rfl (x_val (r_assign rfl) rfl ?_)
      refine x_nil ?_
      refine x_block ?_
      refine x_loopP (σ := Nat) [1, 4, 5, 6, 8, 9, 10, 11] [0, 1, 2, 3, 4, 5, 6, 7, 8, 9] (fun s => [(14, .int .i64 s)]) (fun s => []) (fun s => s ≤ l1.length) (fun s => l1.length - s) (0) (by repeat (first | exact trivial | refine ⟨rfl, ?_⟩)) (fun _ h => h.pick_ [0, 1, 2, 3, 4, 5, 6, 7, 8, 9] (by decide)) (Nat.zero_le _) ?_
      rintro j hj
      refine x_nfe (e' := [_, _, _, _, _, _, _, _, _]) (L' := [_, _, bl _ _ #[_, _, _, _, _], _, _, _, _, _, _, bl _ _ #[_, _, _, _, _]]) rfl rfl ?_
      refine x_seq ?_
      refine x_seq ?_
      refine x_region ?_
      refine x_op rfl (x_val (r_move rfl) rfl ?_)
      refine x_op rfl (x_val (r_move rfl) rfl ?_)
      refine x_op rfl (x_val (r_len_slice Tryd.underlying31 rfl) rfl ?_)
      refine x_op rfl (x_val (r_lss rfl rfl rfl) rfl (x_dec (fun h96 => ?_) (fun h96 => ?_)))
      · refine x_nil ?_
        refine x_true rfl ?_
        refine x_skip ?_
        refine x_seq ?_
        refine x_block ?_
        refine x_region ?_
        have hcc := hS1.2.1
        obtain ⟨g0, rfl⟩ := some_sl hS1 (by omega)
        refine x_op rfl (x_val (r_move rfl) rfl ?_)
        refine x_op rfl (x_val (r_move rfl) rfl ?_)
        refine x_op rfl (x_val (r_indexAddr Tryd.underlying31 Ty.i5 rfl rfl ⟨by omega, by omega⟩) rfl ?_)
        refine x_op rfl (s_storeSl (i := 1) Ty.z5 rfl rfl rfl rfl (by omega) rfl (?_))
        refine x_nf (L' := [_, _, bl _ _ #[_, _, _, _, _], _, _, _, _, _, _, bl _ _ #[_, _, _, _, _]]) rfl ?_
        refine x_nil ?_
        refine x_region ?_
        refine x_op rfl (x_val (r_move rfl) rfl ?_)
        refine x_op rfl (x_val (r_add rfl rfl ⟨by omega, by omega⟩) rfl ?_)
        refine x_op rfl (x_val (r_assign rfl) rfl ?_)
        refine x_nil ?_
        refine x_again (j + 1) (by repeat (first | exact trivial | refine ⟨rfl, ?_⟩)) (fun _ h => h.pick_ [0, 1, 2, 3, 4, 5, 6, 7, 8, 9] (by decide)) (by omega) (by omega)
      · refine x_nil ?_
        refine x_false rfl ?_
        refine x_exit rfl ?_
        refine x_seq ?_
        refine x_seq ?_
        refine x_region ?_
        refine x_op rfl (x_val (r_assign rfl) rfl ?_)
        refine x_nil ?_
        refine x_block ?_
        refine x_loopP (σ := Nat) [1, 4, 5, 6, 9, 10, 11] [0, 1, 2, 3, 4, 5, 6, 7, 8, 9] (fun s => [(15, .int .i64 s)]) (fun s => []) (fun s => s ≤ l2.length) (fun s => l2.length - s) (0) (by repeat (first | exact trivial | refine ⟨rfl, ?_⟩)) (fun _ h => h.pick_ [0, 1, 2, 3, 4, 5, 6, 7, 8, 9] (by decide)) (Nat.zero_le _) ?_
        rintro j hj
        refine x_nfe (e' := [_, _, _, _, _, _, _, _]) (L' := [_, _, bl _ _ #[_, _, _, _, _], _, _, _, _, _, _, bl _ _ #[_, _, _, _, _]]) rfl rfl ?_
        refine x_seq ?_
        refine x_seq ?_
        refine x_region ?_
        refine x_op rfl (x_val (r_move rfl) rfl ?_)
        refine x_op rfl (x_val (r_move rfl) rfl ?_)
        refine x_op rfl (x_val (r_len_slice Tryd.underlying31 rfl) rfl ?_)
        refine x_op rfl (x_val (r_lss rfl rfl rfl) rfl (x_dec (fun h105 => ?_) (fun h105 => ?_)))
        · refine x_nil ?_
          refine x_true rfl ?_
          refine x_skip ?_
          refine x_seq ?_
          refine x_block ?_
          refine x_region ?_
          have hcc := hJ1.2.1
          obtain ⟨g0, rfl⟩ := some_sl hJ1 (by omega)
          refine x_op rfl (x_val (r_move rfl) rfl ?_)
          refine x_op rfl (x_val (r_move rfl) rfl ?_)
          refine x_op rfl (x_val (r_indexAddr Tryd.underlying31 Ty.i5 rfl rfl ⟨by omega, by omega⟩) rfl ?_)
          refine x_op rfl (s_storeSl (i := 0) Ty.z5 rfl rfl rfl rfl (by omega) rfl (?_))
          refine x_nf (L' := [_, _, bl _ _ #[_, _, _, _, _], _, _, _, _, _, _, bl _ _ #[_, _, _, _, _]]) rfl ?_
          refine x_nil ?_
          refine x_region ?_
          refine x_op rfl (x_val (r_move rfl) rfl ?_)
          refine x_op rfl (x_val (r_add rfl rfl ⟨by omega, by omega⟩) rfl ?_)
          refine x_op rfl (x_val (r_assign rfl) rfl ?_)
          refine x_nil ?_
          refine x_again (j + 1) (by repeat (first | exact trivial | refine ⟨rfl, ?_⟩)) (fun _ h => h.pick_ [0, 1, 2, 3, 4, 5, 6, 7, 8, 9] (by decide)) (by omega) (by omega)
        · refine x_nil ?_
          refine x_false rfl ?_
          refine x_exit rfl ?_
          refine x_seq ?_
          refine x_region ?_
          refine x_op rfl (x_val (r_move rfl) rfl ?_)
          refine x_op rfl (x_val (r_move rfl) rfl ?_)
          refine x_op rfl (x_val (r_cap_slice Tryd.underlying31 rfl) rfl ?_)
          refine x_op rfl (x_val (r_slice_hi Tryd.underlying31 Ty.i5 rfl rfl ⟨by omega, by omega⟩) rfl ?_)
          refine x_op rfl (x_val (r_assign rfl) rfl ?_)
          refine x_nil ?_
          refine x_seq ?_
          refine x_seq ?_
          refine x_region ?_
          refine x_op rfl (x_val (r_move rfl) rfl ?_)
          refine x_op rfl (x_val (r_len_slice Tryd.underlying31 rfl) rfl ?_)
          refine x_op rfl (x_val (r_assign rfl) rfl ?_)
          refine x_nil ?_
          refine x_block ?_
          refine x_loopP (σ := Nat) [1, 4, 5, 6, 9, 11, 16] [0, 1, 2, 3, 4, 5, 6, 7, 8, 9] (fun s => [(17, .int .i64 s)]) (fun s => []) (fun s => (encP n dp rt ts xs ys).length ≤ s ∧ s ≤ (encP n dp rt ts xs ys).length + 4) (fun s => (encP n dp rt ts xs ys).length + 4 - s) ((encP n dp rt ts xs ys).length) (by repeat (first | exact trivial | refine ⟨rfl, ?_⟩)) (fun _ h => h.pick_ [0, 1, 2, 3, 4, 5, 6, 7, 8, 9] (by decide)) ⟨Nat.le_refl _, Nat.le_add_right _ 4⟩ ?_
          rintro j ⟨hj, hj4⟩
          refine x_nfe (e' := [_, _, _, _, _, _, _, _]) (L' := [_, _, bl _ _ #[_, _, _, _, _], _, _, _, _, _, _, bl _ _ #[_, _, _, _, _]]) rfl rfl ?_
          refine x_seq ?_
          refine x_seq ?_
          refine x_region ?_
          refine x_op rfl (x_val (r_move rfl) rfl ?_)
          refine x_op rfl (x_val (r_move rfl) rfl ?_)
          refine x_op rfl (x_val (r_len_slice Tryd.underlying31 rfl) rfl ?_)
          refine x_op rfl (x_val (r_lss rfl rfl rfl) rfl (x_dec (fun h120 => ?_) (fun h120 => ?_)))
          · refine x_nil ?_
            refine x_true rfl ?_
            refine x_skip ?_
            refine x_seq ?_
            refine x_block ?_
            refine x_seq ?_
            refine x_region ?_
            refine x_op rfl (x_val (r_move rfl) rfl ?_)
            refine x_op rfl (x_val (r_move rfl) rfl ?_)
            refine x_op rfl (x_val (r_indexAddr Tryd.underlying31 Ty.i5 rfl rfl ⟨by omega, by omega⟩) rfl ?_)
            refine x_op rfl (x_val (r_load1 (v := .int .u8 0) Ty.z5 rfl (fun w hS => (rdRoom hS (i := 7) (k := 4) rfl (by simp only [maxLen]; omega)).cell_ (k := j) (j := 0) (by omega) (by omega) rfl (by simpa using room_get (k := 4) hj (by omega)))) rfl ?_)
            refine x_op rfl (x_val (r_neq (r := false) rfl rfl rfl) rfl ?_)
            refine x_nil ?_
            refine x_false rfl ?_
            refine x_skip ?_
            refine x_region ?_
            refine x_op rfl (x_val (r_move rfl) rfl ?_)
            refine x_op rfl (x_val (r_add rfl rfl ⟨by omega, by omega⟩) rfl ?_)
            refine x_op rfl (x_val (r_assign rfl) rfl ?_)
            refine x_nil ?_
            refine x_again (j + 1) (by repeat (first | exact trivial | refine ⟨rfl, ?_⟩)) (fun _ h => h.pick_ [0, 1, 2, 3, 4, 5, 6, 7, 8, 9] (by decide)) (by omega) (by omega)
          · refine x_nil ?_
            refine x_false rfl ?_
            refine x_exit rfl ?_
            refine x_seq ?_
            refine x_heap (fun w h => h.pick_ [7, 8, 9] (by decide)) ?_
            refine x_nf (L' := [_, _, bl _ _ #[_, _, _, _, _]]) rfl ?_
            refine x_region ?_
            rcases he2 with rfl | rfl
            · refine x_op rfl (x_val (r_move rfl) rfl ?_)
              refine x_op rfl (s_call Ty.c9 rfl rfl (fun w hw => Decode_ n dp rt ts xs ys (some ⟨bF, 0, none⟩) ((encP n dp rt ts xs ys).length + 4) w hP hok (by omega) (by omega) (rdFile hw (i := 0) rfl (by simp only [maxLen]; omega)) (hw.glob hg)) (fun wq v wq1 hw h => ?_))
              obtain ⟨T3, ct3, bG, G0, gc0, G1, gc1, rfl, hT3, hG0, hG1, hO⟩ := h
              refine ⟨_, hw.call0 hO, ?_⟩
              refine x_nf (L' := [_, _, _, _, _, _, bl _ _ #[_, _, _, _, _]]) rfl ?_
              refine x_op rfl (x_val (r_move rfl) rfl ?_)
              refine x_op rfl (x_val (r_extract rfl rfl) rfl ?_)
              refine x_op rfl (x_val (r_extract rfl rfl) rfl ?_)
              refine x_op rfl (s_alloc Ty.i29 rfl fun b18 hb18 => ?_)
              refine x_op rfl (s_store (i := 0) Ty.z29 rfl rfl rfl rfl rfl rfl ?_)
              refine x_nf (L' := [bl _ _ #[_, _, _, _, _], _, _, _, _, _, _, bl _ _ #[_, _, _, _, _]]) rfl ?_
              refine x_op rfl (x_val (r_assign rfl) rfl ?_)
              refine x_nil ?_
              refine x_seq ?_
              refine x_textP [0, 1, 2, 3, 4, 5, 6, 7] (by kernel_rfl) (by decide) ?_
              refine x_tk rfl (r_move rfl) rfl (fun _ h => h.pick_ [0, 1, 2, 3, 4, 5, 6, 7] (by decide)) ?_
              refine x_tk rfl (r_eql rfl rfl rfl) rfl (fun _ h => h.pick_ [0, 1, 2, 3, 4, 5, 6, 7] (by decide)) ?_
              refine x_tk rfl (r_move rfl) rfl (fun _ h => h.pick_ [0, 1, 2, 3, 4, 5, 6, 7] (by decide)) ?_
              refine x_tk rfl (r_move rfl) rfl (fun _ h => h.pick_ [0, 1, 2, 3, 4, 5, 6, 7] (by decide)) ?_
              refine x_tk rfl (r_eql rfl rfl rfl) rfl (fun _ h => h.pick_ [0, 1, 2, 3, 4, 5, 6, 7] (by decide)) ?_
              refine x_tk rfl (r_pick_t rfl rfl) rfl (fun _ h => h.pick_ [0, 1, 2, 3, 4, 5, 6, 7] (by decide)) ?_
              refine x_tk rfl (r_move rfl) rfl (fun _ h => h.pick_ [0, 1, 2, 3, 4, 5, 6, 7] (by decide)) ?_
              refine x_tk rfl (r_move rfl) rfl (fun _ h => h.pick_ [0, 1, 2, 3, 4, 5, 6, 7] (by decide)) ?_
              refine x_tk rfl (r_eql rfl rfl rfl) rfl (fun _ h => h.pick_ [0, 1, 2, 3, 4, 5, 6, 7] (by decide)) ?_
              refine x_tk rfl (r_move rfl) rfl (fun _ h => h.pick_ [0, 1, 2, 3, 4, 5, 6, 7] (by decide)) ?_
              refine x_tkoff rfl rfl (fun _ h => h.pick_ [0, 1, 2, 3, 4, 5, 6, 7] (by decide)) ?_
              refine x_tkoff rfl rfl (fun _ h => h.pick_ [0, 1, 2, 3, 4, 5, 6, 7] (by decide)) ?_
              refine x_tk rfl (r_pick_t rfl rfl) rfl (fun _ h => h.pick_ [0, 1, 2, 3, 4, 5, 6, 7] (by decide)) ?_
              refine x_tk rfl (r_pick_t rfl rfl) rfl (fun _ h => h.pick_ [0, 1, 2, 3, 4, 5, 6, 7] (by decide)) ?_
              refine x_tk rfl (r_move rfl) rfl (fun _ h => h.pick_ [0, 1, 2, 3, 4, 5, 6, 7] (by decide)) ?_
              refine x_tk rfl (r_move rfl) rfl (fun _ h => h.pick_ [0, 1, 2, 3, 4, 5, 6, 7] (by decide)) ?_
              refine x_tk rfl (r_eql rfl rfl rfl) rfl (fun _ h => h.pick_ [0, 1, 2, 3, 4, 5, 6, 7] (by decide)) ?_
              refine x_tk rfl (r_pick_t rfl rfl) rfl (fun _ h => h.pick_ [0, 1, 2, 3, 4, 5, 6, 7] (by decide)) ?_
              refine x_tk rfl (r_move rfl) rfl (fun _ h => h.pick_ [0, 1, 2, 3, 4, 5, 6, 7] (by decide)) ?_
              refine x_tk rfl (r_move rfl) rfl (fun _ h => h.pick_ [0, 1, 2, 3, 4, 5, 6, 7] (by decide)) ?_
              refine x_tk rfl (r_bytes_strB (l := encP n dp rt ts xs ys) Tryd.underlying31 Tryd.underlying5 Tryd.underlying9 rfl (fun w hS => rdFile hS (i := 5) rfl (by simp only [maxLen]; omega))) rfl (fun _ h => h.pick_ [0, 1, 2, 3, 4, 5, 6, 7] (by decide)) ?_
              refine x_tk rfl (r_move rfl) rfl (fun _ h => h.pick_ [0, 1, 2, 3, 4, 5, 6, 7] (by decide)) ?_
              refine x_tk rfl (r_bytes_strB (l := encP n dp rt ts xs ys) Tryd.underlying31 Tryd.underlying5 Tryd.underlying9 rfl (fun w hS => hS.rd_sl (i := 6) rfl hE)) rfl (fun _ h => h.pick_ [0, 1, 2, 3, 4, 5, 6, 7] (by decide)) ?_
              refine x_tk rfl (r_eql_string (r := true) rfl rfl (beq_self_eq_true _)) rfl (fun _ h => h.pick_ [0, 1, 2, 3, 4, 5, 6, 7] (by decide)) ?_
              refine x_tk rfl (r_pick_t rfl rfl) rfl (fun _ h => h.pick_ [0, 1, 2, 3, 4, 5, 6, 7] (by decide)) ?_
              refine x_tk rfl (r_move rfl) rfl (fun _ h => h.pick_ [0, 1, 2, 3, 4, 5, 6, 7] (by decide)) ?_
              refine x_tk rfl (r_ownN (i := 0) Ty.z29 rfl rfl rfl) rfl (fun _ h => h.pick_ [0, 1, 2, 3, 4, 5, 6, 7] (by decide)) ?_
              refine x_tany ?_
              refine x_take 28 rfl (by kernel_rfl) rfl (r_ownN (i := 7) Ty.z27 rfl rfl rfl) rfl (fun _ h => h.pick_ [0, 1, 2, 3, 4, 5, 6, 7] (by decide)) ?_
              refine x_all [27] (by kernel_rfl) ⟨?_, trivial⟩
              refine x_do rfl rfl (s_call Ty.c8 rfl rfl (fun w hw => score_ n dp rt T3 (some ⟨bG, 0, none⟩) ts.length n ct3 n w) (fun wq v wq1 hw h => ?_))
              obtain ⟨rfl, hO⟩ := h
              refine ⟨_, hw.call0 hO, x_and (fun _ h => h.pick_ [0, 1, 2, 3, 4, 5, 6, 7] (by decide)) ?_⟩
              refine x_nf (L' := [bl _ _ #[_, _, _, _, _], _, _, _, _, _, _, bl _ _ #[_, _, _, _, _]]) rfl ?_
              refine x_all [29] (by kernel_rfl) ⟨?_, trivial⟩
              refine x_do rfl rfl (s_call Ty.c7 rfl rfl (fun w hw => Same11_ n dp rt T3 T (some ⟨bG, 0, none⟩) C ts.length n ct3 ct n cc ts (pairOf n (G0, xs.length, gc0) (G1, ys.length, gc1)) vs (pairOf n xs ys) w rfl (pairOf_length hP.two _ _).symm hn (hw.rd_sl (i := 1) rfl hT3) (hw.rd0 hT) (rdSv hw (i := 2) hP.two rfl) (hw.rd0 hC) (chPair hw hP (i := 3) (j := 4) rfl rfl hG0 hG1) (hch.keep hw)) (fun wq v wq1 hw h => ?_))
              obtain ⟨rfl, hO⟩ := h
              refine ⟨_, hw.call0 hO, x_and (fun _ h => h.pick_ [0, 1, 2, 3, 4, 5, 6, 7] (by decide)) ?_⟩
              refine x_nf (L' := [bl _ _ #[_, _, _, _, _], _, _, _, _, _, _, bl _ _ #[_, _, _, _, _]]) rfl ?_
              refine x_take 30 rfl (by kernel_rfl) rfl (r_pick_t rfl rfl) rfl (fun _ h => h.pick_ [0, 1, 2, 3, 4, 5, 6, 7] (by decide)) ?_
              refine x_take 31 rfl (by kernel_rfl) rfl (r_move rfl) rfl (fun _ h => h.pick_ [0, 1, 2, 3, 4, 5, 6, 7] (by decide)) ?_
              refine x_take 32 rfl (by kernel_rfl) rfl (r_fieldAddr Ty.q29_2 rfl) rfl (fun _ h => h.pick_ [0, 1, 2, 3, 4, 5, 6, 7] (by decide)) ?_
              refine x_take 33 rfl (by kernel_rfl) rfl (r_own_add (i := 0) Ty.z25 rfl rfl rfl) rfl (fun _ h => h.pick_ [0, 1, 2, 3, 4, 5, 6, 7] (by decide)) ?_
              refine x_take 34 rfl (by kernel_rfl) rfl (r_build Ty.i44 Ty.p44 rfl rfl) rfl (fun _ h => h.pick_ [0, 1, 2, 3, 4, 5, 6, 7] (by decide)) ?_
              refine x_take 35 rfl (by kernel_rfl) rfl (r_fieldAddr Ty.q27_2 rfl) rfl (fun _ h => h.pick_ [0, 1, 2, 3, 4, 5, 6, 7] (by decide)) ?_
              refine x_take 36 rfl (by kernel_rfl) rfl (r_own_add (i := 7) Ty.z25 rfl rfl rfl) rfl (fun _ h => h.pick_ [0, 1, 2, 3, 4, 5, 6, 7] (by decide)) ?_
              refine x_take 37 rfl (by kernel_rfl) rfl (r_build Ty.i44 Ty.p44 rfl rfl) rfl (fun _ h => h.pick_ [0, 1, 2, 3, 4, 5, 6, 7] (by decide)) ?_
              refine x_all [38] (by kernel_rfl) ⟨?_, trivial⟩
              refine x_do rfl rfl (s_call Ty.c12 rfl rfl (fun w hw => Same10_ 0 (some ⟨bG, 0, none⟩) C n n cc (pairOf n (G0, xs.length, gc0) (G1, ys.length, gc1)) vs (pairOf n xs ys) w (pairOf_length hP.two _ _).symm hn (rdSv hw (i := 2) hP.two rfl) (hw.rd0 hC) (chPair hw hP (i := 3) (j := 4) rfl rfl hG0 hG1) (hch.keep hw)) (fun wq v wq1 hw h => ?_))
              obtain ⟨rfl, hO⟩ := h
              refine ⟨_, hw.call0 hO, x_and (fun _ h => h.pick_ [0, 1, 2, 3, 4, 5, 6, 7] (by decide)) ?_⟩
              refine x_nf (L' := [bl _ _ #[_, _, _, _, _], _, _, _, _, _, _, bl _ _ #[_, _, _, _, _]]) rfl ?_
              refine x_take 39 rfl (by kernel_rfl) rfl (r_pick_t rfl rfl) rfl (fun _ h => h.pick_ [0, 1, 2, 3, 4, 5, 6, 7] (by decide)) ?_
              refine x_take 40 rfl (by kernel_rfl) rfl (r_assign rfl) rfl (fun _ h => h.pick_ [0, 1, 2, 3, 4, 5, 6, 7] (by decide)) ?_
              refine x_done (by kernel_rfl) ?_
              refine x_ret ?_
              -- path YFFFFa
              exact x_ret1 rfl rfl fun w1 hO => ⟨_, rfl, rfl, hO.none_⟩
            · refine x_op rfl (x_val (r_move rfl) rfl ?_)
              refine x_op rfl (s_call Ty.c9 rfl rfl (fun w hw => Decode_ n dp rt ts xs ys (some ⟨bF, 0, none⟩) ((encP n dp rt ts xs ys).length + 4) w hP hok (by omega) (by omega) (rdFile hw (i := 0) rfl (by simp only [maxLen]; omega)) (hw.glob hg)) (fun wq v wq1 hw h => ?_))
              obtain ⟨T3, ct3, bG, G0, gc0, G1, gc1, rfl, hT3, hG0, hG1, hO⟩ := h
              refine ⟨_, hw.call0 hO, ?_⟩
              refine x_nf (L' := [_, _, _, _, _, _, bl _ _ #[_, _, _, _, _]]) rfl ?_
              refine x_op rfl (x_val (r_move rfl) rfl ?_)
              refine x_op rfl (x_val (r_extract rfl rfl) rfl ?_)
              refine x_op rfl (x_val (r_extract rfl rfl) rfl ?_)
              refine x_op rfl (s_alloc Ty.i29 rfl fun b18 hb18 => ?_)
              refine x_op rfl (s_store (i := 0) Ty.z29 rfl rfl rfl rfl rfl rfl ?_)
              refine x_nf (L' := [bl _ _ #[_, _, _, _, _], _, _, _, _, _, _, bl _ _ #[_, _, _, _, _]]) rfl ?_
              refine x_op rfl (x_val (r_assign rfl) rfl ?_)
              refine x_nil ?_
              refine x_seq ?_
              refine x_textP [0, 1, 2, 3, 4, 5, 6, 7] (by kernel_rfl) (by decide) ?_
              refine x_tk rfl (r_move rfl) rfl (fun _ h => h.pick_ [0, 1, 2, 3, 4, 5, 6, 7] (by decide)) ?_
              refine x_tk rfl (r_eql rfl rfl rfl) rfl (fun _ h => h.pick_ [0, 1, 2, 3, 4, 5, 6, 7] (by decide)) ?_
              refine x_tk rfl (r_move rfl) rfl (fun _ h => h.pick_ [0, 1, 2, 3, 4, 5, 6, 7] (by decide)) ?_
              refine x_tk rfl (r_move rfl) rfl (fun _ h => h.pick_ [0, 1, 2, 3, 4, 5, 6, 7] (by decide)) ?_
              refine x_tk rfl (r_eql rfl rfl rfl) rfl (fun _ h => h.pick_ [0, 1, 2, 3, 4, 5, 6, 7] (by decide)) ?_
              refine x_tk rfl (r_pick_t rfl rfl) rfl (fun _ h => h.pick_ [0, 1, 2, 3, 4, 5, 6, 7] (by decide)) ?_
              refine x_tk rfl (r_move rfl) rfl (fun _ h => h.pick_ [0, 1, 2, 3, 4, 5, 6, 7] (by decide)) ?_
              refine x_tk rfl (r_move rfl) rfl (fun _ h => h.pick_ [0, 1, 2, 3, 4, 5, 6, 7] (by decide)) ?_
              refine x_tk rfl (r_eql rfl rfl rfl) rfl (fun _ h => h.pick_ [0, 1, 2, 3, 4, 5, 6, 7] (by decide)) ?_
              refine x_tk rfl (r_move rfl) rfl (fun _ h => h.pick_ [0, 1, 2, 3, 4, 5, 6, 7] (by decide)) ?_
              refine x_tk rfl (r_move rfl) rfl (fun _ h => h.pick_ [0, 1, 2, 3, 4, 5, 6, 7] (by decide)) ?_
              refine x_tk rfl (r_eql rfl rfl rfl) rfl (fun _ h => h.pick_ [0, 1, 2, 3, 4, 5, 6, 7] (by decide)) ?_
              refine x_tk rfl (r_pick_f rfl rfl) rfl (fun _ h => h.pick_ [0, 1, 2, 3, 4, 5, 6, 7] (by decide)) ?_
              refine x_tk rfl (r_pick_t rfl rfl) rfl (fun _ h => h.pick_ [0, 1, 2, 3, 4, 5, 6, 7] (by decide)) ?_
              refine x_tk rfl (r_move rfl) rfl (fun _ h => h.pick_ [0, 1, 2, 3, 4, 5, 6, 7] (by decide)) ?_
              refine x_tk rfl (r_move rfl) rfl (fun _ h => h.pick_ [0, 1, 2, 3, 4, 5, 6, 7] (by decide)) ?_
              refine x_tk rfl (r_eql rfl rfl rfl) rfl (fun _ h => h.pick_ [0, 1, 2, 3, 4, 5, 6, 7] (by decide)) ?_
              refine x_tk rfl (r_pick_t rfl rfl) rfl (fun _ h => h.pick_ [0, 1, 2, 3, 4, 5, 6, 7] (by decide)) ?_
              refine x_tk rfl (r_move rfl) rfl (fun _ h => h.pick_ [0, 1, 2, 3, 4, 5, 6, 7] (by decide)) ?_
              refine x_tk rfl (r_move rfl) rfl (fun _ h => h.pick_ [0, 1, 2, 3, 4, 5, 6, 7] (by decide)) ?_
              refine x_tk rfl (r_bytes_strB (l := encP n dp rt ts xs ys) Tryd.underlying31 Tryd.underlying5 Tryd.underlying9 rfl (fun w hS => rdFile hS (i := 5) rfl (by simp only [maxLen]; omega))) rfl (fun _ h => h.pick_ [0, 1, 2, 3, 4, 5, 6, 7] (by decide)) ?_
              refine x_tk rfl (r_move rfl) rfl (fun _ h => h.pick_ [0, 1, 2, 3, 4, 5, 6, 7] (by decide)) ?_
              refine x_tk rfl (r_bytes_strB (l := encP n dp rt ts xs ys) Tryd.underlying31 Tryd.underlying5 Tryd.underlying9 rfl (fun w hS => hS.rd_sl (i := 6) rfl hE)) rfl (fun _ h => h.pick_ [0, 1, 2, 3, 4, 5, 6, 7] (by decide)) ?_
              refine x_tk rfl (r_eql_string (r := true) rfl rfl (beq_self_eq_true _)) rfl (fun _ h => h.pick_ [0, 1, 2, 3, 4, 5, 6, 7] (by decide)) ?_
              refine x_tk rfl (r_pick_t rfl rfl) rfl (fun _ h => h.pick_ [0, 1, 2, 3, 4, 5, 6, 7] (by decide)) ?_
              refine x_tk rfl (r_move rfl) rfl (fun _ h => h.pick_ [0, 1, 2, 3, 4, 5, 6, 7] (by decide)) ?_
              refine x_tk rfl (r_ownN (i := 0) Ty.z29 rfl rfl rfl) rfl (fun _ h => h.pick_ [0, 1, 2, 3, 4, 5, 6, 7] (by decide)) ?_
              refine x_tany ?_
              refine x_take 28 rfl (by kernel_rfl) rfl (r_ownN (i := 7) Ty.z27 rfl rfl rfl) rfl (fun _ h => h.pick_ [0, 1, 2, 3, 4, 5, 6, 7] (by decide)) ?_
              refine x_all [27] (by kernel_rfl) ⟨?_, trivial⟩
              refine x_do rfl rfl (s_call Ty.c8 rfl rfl (fun w hw => score_ n dp rt T3 (some ⟨bG, 0, none⟩) ts.length n ct3 n w) (fun wq v wq1 hw h => ?_))
              obtain ⟨rfl, hO⟩ := h
              refine ⟨_, hw.call0 hO, x_and (fun _ h => h.pick_ [0, 1, 2, 3, 4, 5, 6, 7] (by decide)) ?_⟩
              refine x_nf (L' := [bl _ _ #[_, _, _, _, _], _, _, _, _, _, _, bl _ _ #[_, _, _, _, _]]) rfl ?_
              refine x_all [29] (by kernel_rfl) ⟨?_, trivial⟩
              refine x_do rfl rfl (s_call Ty.c7 rfl rfl (fun w hw => Same11_ n dp rt T3 T (some ⟨bG, 0, none⟩) C ts.length n ct3 ct n cc ts (pairOf n (G0, xs.length, gc0) (G1, ys.length, gc1)) vs (pairOf n xs ys) w rfl (pairOf_length hP.two _ _).symm hn (hw.rd_sl (i := 1) rfl hT3) (hw.rd0 hT) (rdSv hw (i := 2) hP.two rfl) (hw.rd0 hC) (chPair hw hP (i := 3) (j := 4) rfl rfl hG0 hG1) (hch.keep hw)) (fun wq v wq1 hw h => ?_))
              obtain ⟨rfl, hO⟩ := h
              refine ⟨_, hw.call0 hO, x_and (fun _ h => h.pick_ [0, 1, 2, 3, 4, 5, 6, 7] (by decide)) ?_⟩
              refine x_nf (L' := [bl _ _ #[_, _, _, _, _], _, _, _, _, _, _, bl _ _ #[_, _, _, _, _]]) rfl ?_
              refine x_take 30 rfl (by kernel_rfl) rfl (r_pick_t rfl rfl) rfl (fun _ h => h.pick_ [0, 1, 2, 3, 4, 5, 6, 7] (by decide)) ?_
              refine x_take 31 rfl (by kernel_rfl) rfl (r_move rfl) rfl (fun _ h => h.pick_ [0, 1, 2, 3, 4, 5, 6, 7] (by decide)) ?_
              refine x_take 32 rfl (by kernel_rfl) rfl (r_fieldAddr Ty.q29_2 rfl) rfl (fun _ h => h.pick_ [0, 1, 2, 3, 4, 5, 6, 7] (by decide)) ?_
              refine x_take 33 rfl (by kernel_rfl) rfl (r_own_add (i := 0) Ty.z25 rfl rfl rfl) rfl (fun _ h => h.pick_ [0, 1, 2, 3, 4, 5, 6, 7] (by decide)) ?_
              refine x_take 34 rfl (by kernel_rfl) rfl (r_build Ty.i44 Ty.p44 rfl rfl) rfl (fun _ h => h.pick_ [0, 1, 2, 3, 4, 5, 6, 7] (by decide)) ?_
              refine x_take 35 rfl (by kernel_rfl) rfl (r_fieldAddr Ty.q27_2 rfl) rfl (fun _ h => h.pick_ [0, 1, 2, 3, 4, 5, 6, 7] (by decide)) ?_
              refine x_take 36 rfl (by kernel_rfl) rfl (r_own_add (i := 7) Ty.z25 rfl rfl rfl) rfl (fun _ h => h.pick_ [0, 1, 2, 3, 4, 5, 6, 7] (by decide)) ?_
              refine x_take 37 rfl (by kernel_rfl) rfl (r_build Ty.i44 Ty.p44 rfl rfl) rfl (fun _ h => h.pick_ [0, 1, 2, 3, 4, 5, 6, 7] (by decide)) ?_
              refine x_all [38] (by kernel_rfl) ⟨?_, trivial⟩
              refine x_do rfl rfl (s_call Ty.c12 rfl rfl (fun w hw => Same10_ 0 (some ⟨bG, 0, none⟩) C n n cc (pairOf n (G0, xs.length, gc0) (G1, ys.length, gc1)) vs (pairOf n xs ys) w (pairOf_length hP.two _ _).symm hn (rdSv hw (i := 2) hP.two rfl) (hw.rd0 hC) (chPair hw hP (i := 3) (j := 4) rfl rfl hG0 hG1) (hch.keep hw)) (fun wq v wq1 hw h => ?_))
              obtain ⟨rfl, hO⟩ := h
              refine ⟨_, hw.call0 hO, x_and (fun _ h => h.pick_ [0, 1, 2, 3, 4, 5, 6, 7] (by decide)) ?_⟩
              refine x_nf (L' := [bl _ _ #[_, _, _, _, _], _, _, _, _, _, _, bl _ _ #[_, _, _, _, _]]) rfl ?_
              refine x_take 39 rfl (by kernel_rfl) rfl (r_pick_t rfl rfl) rfl (fun _ h => h.pick_ [0, 1, 2, 3, 4, 5, 6, 7] (by decide)) ?_
              refine x_take 40 rfl (by kernel_rfl) rfl (r_assign rfl) rfl (fun _ h => h.pick_ [0, 1, 2, 3, 4, 5, 6, 7] (by decide)) ?_
              refine x_done (by kernel_rfl) ?_
              refine x_ret ?_
              -- path YFFFFb
              exact x_ret1 rfl rfl fun w1 hO => ⟨_, rfl, rfl, hO.none_⟩
  · refine x_op rfl (x_val (r_ownN (i := 0) Ty.z29 rfl rfl rfl) rfl ?_)
    refine x_op rfl (s_call Ty.c6 rfl rfl (fun w hw => EncodeBad ch dp rt T1 M ct1 cM n ts us chs w hus hbad (hw.rd_sl (i := 1) rfl hT1) hts (by omega) (hw.rd_sl (i := 2) rfl hM) (hZ.ch hw (fun x hx => by repeat (first | exact hx | apply List.mem_cons_of_mem))) (by omega) (hw.glob hg)) (fun wq v wq1 hw h => ?_))
    obtain ⟨e, he, rfl, hO⟩ := h
    refine ⟨_, hw.call0 hO, ?_⟩
    refine x_nf (L' := bl _ _ #[_, _, _, _, _] :: _ :: _ :: bl _ _ #[_, _, _, _, _] :: _) rfl ?_
    refine x_op rfl (x_val (r_move rfl) rfl ?_)
    refine x_op rfl (x_val (r_extract rfl rfl) rfl ?_)
    refine x_op rfl (x_val (r_extract rfl rfl) rfl ?_)
    refine x_op rfl (x_val (r_assign rfl) rfl ?_)
    refine x_op rfl (x_val (r_assign rfl) rfl ?_)
    refine x_nil ?_
    refine x_seq ?_
    refine x_seq ?_
    refine x_textP [0, 1, 2, 3] (by kernel_rfl) (by decide) ?_
    refine x_tk rfl (r_ownN (i := 0) Ty.z29 rfl rfl rfl) rfl (fun _ h => h.pick_ [0, 1, 2, 3] (by decide)) ?_
    refine x_tany ?_
    refine x_take 2 rfl (by kernel_rfl) rfl (r_ownN (i := 3) Ty.z27 rfl rfl rfl) rfl (fun _ h => h.pick_ [0, 1, 2, 3] (by decide)) ?_
    refine x_all [1] (by kernel_rfl) ⟨?_, trivial⟩
    refine x_do rfl rfl (s_call Ty.c8 rfl rfl (fun w hw => score_ ch dp rt T1 M ts.length n ct1 cM w) (fun wq v wq1 hw h => ?_))
    obtain ⟨rfl, hO⟩ := h
    refine ⟨_, hw.call0 hO, x_and (fun _ h => h.pick_ [0, 1, 2, 3] (by decide)) ?_⟩
    refine x_nf (L' := bl _ _ #[_, _, _, _, _] :: _ :: _ :: bl _ _ #[_, _, _, _, _] :: _) rfl ?_
    refine x_all [3] (by kernel_rfl) ⟨?_, trivial⟩
    refine x_do rfl rfl (s_call Ty.c7 rfl rfl (fun w hw => Same11_ ch dp rt T1 T M C ts.length n ct1 ct cM cc ts us vs chs w rfl hus hn (hw.rd_sl (i := 1) rfl hT1) (hw.rd0 hT) (hw.rd_sl (i := 2) rfl hM) (hw.rd0 hC) (hZ.ch hw (fun x hx => by repeat (first | exact hx | apply List.mem_cons_of_mem))) (hch.keep hw)) (fun wq v wq1 hw h => ?_))
    obtain ⟨rfl, hO⟩ := h
    refine ⟨_, hw.call0 hO, x_and (fun _ h => h.pick_ [0, 1, 2, 3] (by decide)) ?_⟩
    refine x_nf (L' := bl _ _ #[_, _, _, _, _] :: _ :: _ :: bl _ _ #[_, _, _, _, _] :: _) rfl ?_
    refine x_take 4 rfl (by kernel_rfl) rfl (r_not rfl rfl) rfl (fun _ h => h.pick_ [0, 1, 2, 3] (by decide)) ?_
    refine x_take 5 rfl (by kernel_rfl) rfl (r_move rfl) rfl (fun _ h => h.pick_ [0, 1, 2, 3] (by decide)) ?_
    refine x_take 6 rfl (by kernel_rfl) rfl (r_move rfl) rfl (fun _ h => h.pick_ [0, 1, 2, 3] (by decide)) ?_
    refine x_take 7 rfl (by kernel_rfl) rfl (r_neq (r := true) rfl rfl (decide_eq_true he)) rfl (fun _ h => h.pick_ [0, 1, 2, 3] (by decide)) ?_
    refine x_take 8 rfl (by kernel_rfl) rfl (r_pick_f rfl rfl) rfl (fun _ h => h.pick_ [0, 1, 2, 3] (by decide)) ?_
    refine x_done (by kernel_rfl) ?_
    refine x_true rfl ?_
    refine x_seq ?_
    refine x_textP [0, 1, 2, 3] (by kernel_rfl) (by decide) ?_
    refine x_tk rfl (r_ownN (i := 0) Ty.z29 rfl rfl rfl) rfl (fun _ h => h.pick_ [0, 1, 2, 3] (by decide)) ?_
    refine x_tany ?_
    refine x_take 2 rfl (by kernel_rfl) rfl (r_ownN (i := 3) Ty.z27 rfl rfl rfl) rfl (fun _ h => h.pick_ [0, 1, 2, 3] (by decide)) ?_
    refine x_all [1] (by kernel_rfl) ⟨?_, trivial⟩
    refine x_do rfl rfl (s_call Ty.c8 rfl rfl (fun w hw => score_ ch dp rt T1 M ts.length n ct1 cM w) (fun wq v wq1 hw h => ?_))
    obtain ⟨rfl, hO⟩ := h
    refine ⟨_, hw.call0 hO, x_and (fun _ h => h.pick_ [0, 1, 2, 3] (by decide)) ?_⟩
    refine x_nf (L' := bl _ _ #[_, _, _, _, _] :: _ :: _ :: bl _ _ #[_, _, _, _, _] :: _) rfl ?_
    refine x_all [3] (by kernel_rfl) ⟨?_, trivial⟩
    refine x_do rfl rfl (s_call Ty.c7 rfl rfl (fun w hw => Same11_ ch dp rt T1 T M C ts.length n ct1 ct cM cc ts us vs chs w rfl hus hn (hw.rd_sl (i := 1) rfl hT1) (hw.rd0 hT) (hw.rd_sl (i := 2) rfl hM) (hw.rd0 hC) (hZ.ch hw (fun x hx => by repeat (first | exact hx | apply List.mem_cons_of_mem))) (hch.keep hw)) (fun wq v wq1 hw h => ?_))
    obtain ⟨rfl, hO⟩ := h
    refine ⟨_, hw.call0 hO, x_and (fun _ h => h.pick_ [0, 1, 2, 3] (by decide)) ?_⟩
    refine x_nf (L' := bl _ _ #[_, _, _, _, _] :: _ :: _ :: bl _ _ #[_, _, _, _, _] :: _) rfl ?_
    refine x_take 4 rfl (by kernel_rfl) rfl (r_assign rfl) rfl (fun _ h => h.pick_ [0, 1, 2, 3] (by decide)) ?_
    refine x_done (by kernel_rfl) ?_
    refine x_ret ?_
    -- path N
    exact x_ret1 rfl rfl fun w1 hO => ⟨_, rfl, rfl, hO.none_⟩
end Go.Proofs.YtlpoepmipbegaaaDoor.Wv
