/- wav.Decode at a track's file. -/
import Derived.Test.YtlpoepmipbegaaaDoorV14
set_option linter.unusedVariables false
set_option linter.unusedSimpArgs false
namespace Go.Proofs.YtlpoepmipbegaaaDoor.Wv
open Go Go.RowKit Go.Proofs.YtlpoepmipbegaaaDoor.En
structure DS where
  n : Nat
  A0 : Option Addr
  c0 : Nat
  A1 : Option Addr
  c1 : Nat
  B : Option Addr
  m : Nat
  c : Nat
set_option maxHeartbeats 2000000 in
set_option maxRecDepth 20000 in
theorem Decode_ (k : Nat) (dp rt : Int) (ts : List ByteArray) (xs ys : List Int) (B : Option Addr) (c : Nat) (w : World) (hP : Chans k xs ys) (hok : TrackOk (k : Int) dp rt ts (pairOf k xs ys))
    (hle : (encP k dp rt ts xs ys).length ≤ c) (hmax : c ≤ 1000000000000) (hr : Rd w B (encP k dp rt ts xs ys).length 1 (u8s (encP k dp rt ts xs ys))) (hg : Glob w) :
    Calls Tryd.prog 9 #[.slice B (encP k dp rt ts xs ys).length c] w fun en w1 => ∃ r, en = .returned r ∧ ∃ T' ct' bM A0 c0 A1 c1, r = .tuple #[.agg #[.int .i64 (k : Int), .int .i64 dp, .int .i64 rt, .slice T' ts.length ct', .slice (some ⟨bM, 0, none⟩) k k], .int .i64 0] ∧
      SlOk T' ts.length ct' 1 (strs ts) ∧ SlOk A0 xs.length c0 1 (ints xs) ∧ SlOk A1 ys.length c1 1 (ints ys) ∧ Own w [] [sl T' ct' 9 1 (strs ts), bl bM 41 (svCells k (A0, xs.length, c0) (A1, ys.length, c1)), sl A0 c0 3 1 (ints xs), sl A1 c1 3 1 (ints ys)] w1 := by
  have hsh := hok.shape
  have h2 := hP.two
  have hdp : 4 ≤ dp ∧ dp ≤ 24 := by omega
  have hwb := wideN_bd hdp
  obtain ⟨P, hPp, hP1, hP2, hM1, hM2, hs0, hs7, hPM⟩ := dp_cases hdp
  have hbd := blk_bd (ch := (k : Int)) (dp := dp) (by omega) hdp
  have hN : chN (pairOf k xs ys) = xs.length := chN_pair k xs ys
  have hN4 := chN_le hok
  have hdb := data_blk hok
  have hds := data_small (n := chN (pairOf k xs ys)) hdp (chs := pairOf k xs ys) (by rw [pairOf_length h2]; omega) hN4
  have hseq := data_seq dp (pairOf k xs ys) xs.length
  have hil := inter_length (pairOf k xs ys) xs.length
  rw [pairOf_length h2] at hil
  rw [hN] at hN4 hdb hds
  have hkc : (xs.length : Int) * (k : Int) = ((xs.length * k : Nat) : Int) := by rw [Int.natCast_mul]
  have hkn : xs.length * k ≤ 8192 := by rcases h2 with rfl | rfl <;> omega
  generalize hnt : xs.length * k = nt at hkc hkn hil
  have hq : ((dataB dp (pairOf k xs ys) xs.length).length : Int) / blk k dp = (xs.length : Int) := by rw [hdb]; exact Int.mul_ediv_cancel _ (by omega)
  have hm0 : ((dataB dp (pairOf k xs ys) xs.length).length : Int) % blk k dp = 0 := by rw [hdb]; exact Int.mul_emod_left _ _
  have htN := hok.tagsN
  have hpw : (1 : Int) ≤ 2 ^ (8 * (wideN dp : Int)).toNat ∧ (2 : Int) ^ (8 * (wideN dp : Int)).toNat ≤ 16777216 := by
    have h3 : wideN dp = 1 ∨ wideN dp = 2 ∨ wideN dp = 3 := by omega
    rcases h3 with h3 | h3 | h3 <;> rw [h3] <;> decide
  have k00 : k0 k 0 = 0 := by rcases h2 with rfl | rfl <;> rfl
  have k10 : k1 k 0 = 0 := by rcases h2 with rfl | rfl <;> rfl
  have ints_nil : ints [] = [] := rfl
  have hz0 : SlOk none (k0 k 0) 0 1 (ints (xs.take (k0 k 0))) ∧ SlOk none (k1 k 0) 0 1 (ints (ys.take (k1 k 0))) := by rw [k00, k10]; exact ⟨SlOk.nil_ 1, SlOk.nil_ 1⟩
  refine fn_enter (args := [_]) (F := []) Tryd.func9 rfl rfl rfl ?_
  refine x_seq ?_
  refine x_region ?_
  refine x_op rfl (s_alloc Ty.i29 rfl fun b2 hb2 => ?_)
  refine x_op rfl (x_val (r_assign rfl) rfl ?_)
  refine x_nil ?_
  refine x_seq ?_
  refine x_region ?_
  refine x_op rfl (x_val (r_move rfl) rfl ?_)
  refine x_op rfl (s_call Ty.c17 rfl rfl (fun w hw => look_ k dp rt ts (dataB dp (pairOf k xs ys) xs.length) B c w hsh htN hok.tags hm0 (by rw [hq]; omega) (by omega) hle hmax (hw.rd0 hr) (hw.glob hg)) (fun wq v wq1 hw h => ?_))
  obtain ⟨T1, ct1, D, cD, rfl, hT1, hDr, hcD, hcM, hO⟩ := h
  refine ⟨_, hw.call0 hO, ?_⟩
  have hD := hDr _ hr
  have hC0 : Cur w [] D (dataB dp (pairOf k xs ys) xs.length).length cD (seqB dp ((inter (pairOf k xs ys) xs.length).drop 0)) := by
    rw [List.drop_zero, ← hseq]
    exact ⟨rfl, hcD, hcM, hD, fun _ _ _ => by simp⟩
  refine x_nf (L' := [_, bl _ _ #[_, _, _, _, _]]) rfl ?_
  refine x_op rfl (x_val (r_move rfl) rfl ?_)
  refine x_op rfl (x_val (r_extract rfl rfl) rfl ?_)
  refine x_op rfl (x_val (r_extract rfl rfl) rfl ?_)
  refine x_op rfl (s_alloc Ty.i48 rfl fun b4 hb4 => ?_)
  refine x_op rfl (s_store (i := 0) Ty.z48 rfl rfl rfl rfl rfl rfl ?_)
  refine x_nf (L' := [bl _ _ #[_, _, _, _, _], _, bl _ _ #[_, _, _, _, _]]) rfl ?_
  refine x_op rfl (x_val (r_assign rfl) rfl ?_)
  refine x_nil ?_
  refine x_seq ?_
  refine x_seq ?_
  refine x_region ?_
  refine x_op rfl (x_val (r_move rfl) rfl ?_)
  refine x_op rfl (x_val (r_neq rfl rfl rfl) rfl ?_)
  refine x_nil ?_
  refine x_false rfl ?_
  refine x_skip ?_
  refine x_cutP (σ := Nat × Nat) [0, 2, 4] [0, 1, 2] (fun s => [(6, .pointer (me s.1))]) (fun s => [bl s.1 29 #[.int .i64 k, .int .i64 dp, .int .i64 rt, .slice T1 ts.length ct1, .slice (some ⟨s.2, 0, none⟩) k k], bl s.2 41 (svCells k (none, 0, 0) (none, 0, 0))]) (fun s => True) ?_ ?_
  · refine x_textP [0, 1, 2] (by kernel_rfl) (by decide) ?_
    refine x_tk rfl (r_fieldAddr Ty.q48_0 rfl) rfl (fun _ h => h.pick_ [0, 1, 2] (by decide)) ?_
    refine x_tk rfl (r_own_at (i := 0) Ty.z23 rfl rfl rfl rfl) rfl (fun _ h => h.pick_ [0, 1, 2] (by decide)) ?_
    refine x_tk rfl (r_fieldAddr Ty.q48_1 rfl) rfl (fun _ h => h.pick_ [0, 1, 2] (by decide)) ?_
    refine x_tk rfl (r_own_add (i := 0) Ty.z24 rfl rfl rfl) rfl (fun _ h => h.pick_ [0, 1, 2] (by decide)) ?_
    refine x_tk rfl (r_fieldAddr Ty.q48_0 rfl) rfl (fun _ h => h.pick_ [0, 1, 2] (by decide)) ?_
    refine x_tk rfl (r_fieldAddr Ty.q23_0 rfl) rfl (fun _ h => h.pick_ [0, 1, 2] (by decide)) ?_
    refine x_tk rfl (r_own_add (i := 0) Ty.z3 rfl rfl rfl) rfl (fun _ h => h.pick_ [0, 1, 2] (by decide)) ?_
    refine x_tany ?_
    refine x_all [7, 9] (by kernel_rfl) ⟨?_, ?_, trivial⟩
    · refine x_do rfl rfl (s_makeSv h2 Tryd.underlying25 Ty.i41 (by decide) rfl rfl rfl fun bM hbM => x_and (fun _ h => h.pick_ [1, 2, 3] (by decide)) ?_)
      refine x_take 8 rfl (by kernel_rfl) rfl (r_build Ty.i29 Ty.p29 rfl rfl) rfl (fun _ h => h.pick_ [1, 2, 3] (by decide)) ?_
      refine x_all [9] (by kernel_rfl) ⟨?_, trivial⟩
      refine x_do rfl rfl (s_alloc Ty.i29 rfl fun b6 hb6 => x_and (fun _ h => h.pick_ [2, 3, 4] (by decide)) ?_)
      refine x_all [10] (by kernel_rfl) ⟨?_, trivial⟩
      refine x_do rfl rfl (s_store (i := 0) Ty.z29 rfl rfl rfl rfl rfl rfl (x_and (fun _ h => h.pick_ [2, 3, 4] (by decide)) ?_))
      refine x_nf (L' := [bl _ _ #[_, _, _, _, _], _, bl _ _ #[_, _, _, _, _], _, bl _ _ #[_, _, _, _, _]]) rfl ?_
      refine x_done (by kernel_rfl) ?_
      refine x_there ((b6, bM)) (by repeat (first | exact trivial | refine ⟨rfl, ?_⟩)) (fun _ h => h.pick_ [0, 1, 2, 3, 4] (by decide)) trivial
    · refine x_do rfl rfl (s_alloc Ty.i29 rfl fun b6 hb6 => x_and (fun _ h => h.pick_ [1, 2, 3] (by decide)) ?_)
      refine x_all [7] (by kernel_rfl) ⟨?_, trivial⟩
      refine x_do rfl rfl (s_makeSv h2 Tryd.underlying25 Ty.i41 (by decide) rfl rfl rfl fun bM hbM => x_and (fun _ h => h.pick_ [2, 3, 4] (by decide)) ?_)
      refine x_take 8 rfl (by kernel_rfl) rfl (r_build Ty.i29 Ty.p29 rfl rfl) rfl (fun _ h => h.pick_ [2, 3, 4] (by decide)) ?_
      refine x_all [10] (by kernel_rfl) ⟨?_, trivial⟩
      refine x_do rfl rfl (s_store (i := 1) Ty.z29 rfl rfl rfl rfl rfl rfl (x_and (fun _ h => h.pick_ [2, 3, 4] (by decide)) ?_))
      refine x_nf (L' := [_, bl _ _ #[_, _, _, _, _], bl _ _ #[_, _, _, _, _], _, bl _ _ #[_, _, _, _, _]]) rfl ?_
      refine x_done (by kernel_rfl) ?_
      refine x_there ((b6, bM)) (by repeat (first | exact trivial | refine ⟨rfl, ?_⟩)) (fun _ h => h.pick_ [1, 0, 2, 3, 4] (by decide)) trivial
  · rintro ⟨b6, bM⟩ _
    refine x_nfe (e' := [_, _, _, _]) (L' := [_, _, bl _ _ #[_, _, _, _, _], _, bl _ _ #[_, _, _, _, _]]) rfl rfl ?_
    refine x_seq ?_
    refine x_region ?_
    refine x_op rfl (x_val (r_fieldAddr Ty.q48_0 rfl) rfl ?_)
    refine x_op rfl (x_val (r_own_at (i := 2) Ty.z23 rfl rfl rfl rfl) rfl ?_)
    refine x_op rfl (s_call Ty.c14 rfl rfl (fun w hw => wideN_ k dp rt w hdp) (fun wq v wq1 hw h => ?_))
    obtain ⟨rfl, hO⟩ := h
    refine ⟨_, hw.call0 hO, ?_⟩
    refine x_nf (L' := [_, _, bl _ _ #[_, _, _, _, _], _, bl _ _ #[_, _, _, _, _]]) rfl ?_
    refine x_op rfl (x_val (r_assign rfl) rfl ?_)
    refine x_nil ?_
    refine x_seq ?_
    refine x_region ?_
    refine x_op rfl (x_val (r_fieldAddr Ty.q48_2 rfl) rfl ?_)
    refine x_op rfl (x_val (r_own_add (i := 2) Ty.z31 rfl rfl rfl) rfl ?_)
    refine x_op rfl (x_val (r_build Ty.i56 Ty.p56 rfl rfl) rfl ?_)
    refine x_op rfl (s_box rfl rfl fun b38 hb38 => ?_)
    refine x_op rfl (x_val (r_assign rfl) rfl ?_)
    refine x_nil ?_
    refine x_seq ?_
    refine x_seq ?_
    refine x_heap (L' := sl none 0 3 1 [] :: _) (fun w hO => hO.nilsl 3 1) ?_
    refine x_heap (L' := sl none 0 3 1 [] :: _) (fun w hO => hO.nilsl 3 1) ?_
    refine x_textP [0, 1, 2, 3, 4, 5, 6, 7] (by kernel_rfl) (by decide) ?_
    refine x_tk rfl (r_ownN (i := 5) Ty.z48 rfl rfl rfl) rfl (fun _ h => h.pick_ [0, 1, 2, 3, 4, 5, 6, 7] (by decide)) ?_
    refine x_tany ?_
    refine x_take 2 rfl (by kernel_rfl) rfl (r_fieldAddr Ty.q48_0 rfl) rfl (fun _ h => h.pick_ [0, 1, 2, 3, 4, 5, 6, 7] (by decide)) ?_
    refine x_take 3 rfl (by kernel_rfl) rfl (r_fieldAddr Ty.q23_0 rfl) rfl (fun _ h => h.pick_ [0, 1, 2, 3, 4, 5, 6, 7] (by decide)) ?_
    refine x_take 4 rfl (by kernel_rfl) rfl (r_own_add (i := 5) Ty.z3 rfl rfl rfl) rfl (fun _ h => h.pick_ [0, 1, 2, 3, 4, 5, 6, 7] (by decide)) ?_
    refine x_take 6 rfl (by kernel_rfl) rfl (r_move rfl) rfl (fun _ h => h.pick_ [0, 1, 2, 3, 4, 5, 6, 7] (by decide)) ?_
    refine x_all [1] (by kernel_rfl) ⟨?_, trivial⟩
    refine x_do rfl rfl (s_call Ty.c18 rfl rfl (fun w hw => countN k dp rt xs.length (.slice T1 ts.length ct1) D (dataB dp (pairOf k xs ys) xs.length).length cD w (by omega) hdp hbd (by omega) rfl hq) (fun wq v wq1 hw h => ?_))
    obtain ⟨rfl, hO⟩ := h
    refine ⟨_, hw.call0 hO, x_and (fun _ h => h.pick_ [0, 1, 2, 3, 4, 5, 6, 7] (by decide)) ?_⟩
    refine x_nf (L' := [_, _, bl _ _ #[_, _], _, _, bl _ _ #[_, _, _, _, _], _, bl _ _ #[_, _, _, _, _]]) rfl ?_
    refine x_take 5 rfl (by kernel_rfl) rfl (r_mulE (r := (nt : Int)) rfl rfl hkc (by omega)) rfl (fun _ h => h.pick_ [0, 1, 2, 3, 4, 5, 6, 7] (by decide)) ?_
    refine x_done (by kernel_rfl) ?_
    refine x_block ?_
    refine x_loopP (σ := DS) [0, 2, 4, 6, 7, 8, 44] [3, 5, 6, 7] (fun s => [(45, .int .i64 s.n)]) (fun s => [bl b38 56 #[.slice s.B s.m s.c, .bool false], bl bM 41 (svCells k (s.A0, k0 k s.n, s.c0) (s.A1, k1 k s.n, s.c1)), sl s.A0 s.c0 3 1 (ints (xs.take (k0 k s.n))), sl s.A1 s.c1 3 1 (ints (ys.take (k1 k s.n)))]) (fun s => s.n ≤ nt ∧ SlOk s.A0 (k0 k s.n) s.c0 1 (ints (xs.take (k0 k s.n))) ∧ SlOk s.A1 (k1 k s.n) s.c1 1 (ints (ys.take (k1 k s.n))) ∧ Cur w [] s.B s.m s.c (seqB dp ((inter (pairOf k xs ys) xs.length).drop s.n))) (fun s => nt - s.n) (⟨0, none, 0, none, 0, D, (dataB dp (pairOf k xs ys) xs.length).length, cD⟩) (by repeat (first | exact trivial | refine ⟨rfl, ?_⟩)) (fun _ h => by simp only [k00, k10, List.take_zero, ints_nil]; exact h.pick_ [2, 4, 1, 0, 3, 5, 6, 7] (by decide)) ⟨Nat.zero_le _, hz0.1, hz0.2, hC0⟩ ?_
    rintro ⟨n, A0, c0, A1, c1, B', m', c'⟩ ⟨hi, hA0, hA1, hC⟩; simp only [] at hi hA0 hA1 hC ⊢
    refine x_nfe (e' := [_, _, _, _, _, _, _, _]) (L' := [bl _ _ #[_, _], _, _, _, _, bl _ _ #[_, _, _, _, _], _, bl _ _ #[_, _, _, _, _]]) rfl rfl ?_
    refine x_seq ?_
    refine x_region ?_
    refine x_op rfl (x_val (r_lss rfl rfl rfl) rfl (x_dec (fun h46 => ?_) (fun h46 => ?_)))
    · refine x_nil ?_
      refine x_seq ?_
      refine x_true rfl ?_
      refine x_skip ?_
      refine x_seq ?_
      refine x_block ?_
      refine x_seq ?_
      refine x_region ?_
      refine x_op rfl (x_val (r_move rfl) rfl ?_)
      refine x_op rfl (x_val (r_assign rfl) rfl ?_)
      refine x_nil ?_
      refine x_seq ?_
      refine x_region ?_
      refine x_op rfl (x_val (r_move rfl) rfl ?_)
      have hkb := k_le k n
      obtain ⟨z, hz, hzm, hside⟩ := hP.at_ (n := n) (by omega)
      have hfz : fits dp z := by
        unfold pairOf at hok
        rcases hzm with hzm | ⟨hk2, hzm⟩
        · exact hok.fit xs (by split <;> simp) z hzm
        · exact hok.fit ys (by subst hk2; simp) z hzm
      have hsq := seqB_cons (dp := dp) hz
      rw [hsq] at hC
      have hm' : 0 < m' := by have := hC.len; rw [List.length_append, sampB_length] at this; omega
      refine x_op rfl (x_val (r_move rfl) rfl ?_)
      refine x_op rfl (s_call Ty.c19 rfl rfl (fun w hw => numberCn hw (i := 0) (n := wideN dp) (x := sampB dp z) rfl hC (by omega) hm' (sampB_length dp z)) (fun wq v wq1 hw h => ?_))
      obtain ⟨rfl, B2, m2, c2, hC2, _, hO⟩ := h
      refine ⟨_, hw.swap_ [0] [1, 2, 3, 4, 5, 6, 7] (by decide) hO, ?_⟩
      refine x_nf (L' := [bl _ _ #[_, _], _, _, _, _, bl _ _ #[_, _, _, _, _], _, bl _ _ #[_, _, _, _, _]]) rfl ?_
      refine x_op rfl (x_val (r_assign rfl) rfl ?_)
      refine x_nil ?_
      refine x_cutP (σ := Int) [0, 2, 4, 6, 7, 8, 9, 44, 45] [0, 1, 2, 3, 4, 5, 6, 7] (fun s => [(10, .int .i64 s)]) (fun s => []) (fun s => s / shM dp = z ∧ -16777216 ≤ s ∧ s ≤ 16777216) ?_ ?_
      · refine x_seq ?_
        refine x_region ?_
        refine x_op rfl (x_val (r_move rfl) rfl ?_)
        refine x_op rfl (x_val (r_eql rfl rfl rfl) rfl (x_dec (fun h52 => ?_) (fun h52 => ?_)))
        · refine x_nil ?_
          refine x_true rfl ?_
          refine x_region ?_
          refine x_op rfl (x_val (r_move rfl) rfl ?_)
          have hd1 := dec_one hdp hfz (by omega)
          refine x_op rfl (x_val (r_sub rfl rfl ⟨by omega, by omega⟩) rfl ?_)
          refine x_op rfl (x_val (r_assign rfl) rfl ?_)
          refine x_nil ?_
          refine x_there ((leV (sampB dp z) : Int) - 128) (by repeat (first | exact trivial | refine ⟨rfl, ?_⟩)) (fun _ h => h.pick_ [0, 1, 2, 3, 4, 5, 6, 7] (by decide)) ⟨hd1.1, by omega, by omega⟩
        · refine x_nil ?_
          refine x_false rfl ?_
          refine x_seq ?_
          refine x_region ?_
          refine x_op rfl (x_val (r_move rfl) rfl ?_)
          refine x_op rfl (x_val (r_move rfl) rfl ?_)
          refine x_op rfl (x_val (r_mul rfl rfl ⟨by omega, by omega⟩) rfl ?_)
          refine x_op rfl (x_val (r_sub rfl rfl ⟨by omega, by omega⟩) rfl ?_)
          have hd2 := dec_more hdp hfz (by omega)
          refine x_op rfl (x_val (r_shr (2 ^ (8 * (wideN dp : Int) - 1).toNat) rfl rfl rfl ⟨by omega, by omega⟩) rfl ?_)
          refine x_op rfl (x_val (r_eql rfl rfl rfl) rfl (x_dec (fun h60 => ?_) (fun h60 => ?_)))
          · refine x_nil ?_
            refine x_true rfl ?_
            refine x_region ?_
            refine x_op rfl (x_val (r_move rfl) rfl ?_)
            refine x_op rfl (x_val (r_move rfl) rfl ?_)
            refine x_op rfl (x_val (r_mul rfl rfl ⟨by omega, by omega⟩) rfl ?_)
            refine x_op rfl (x_val (r_shl (2 ^ (8 * (wideN dp : Int)).toNat) rfl rfl rfl ⟨by omega, by omega⟩ ⟨by omega, by omega⟩) rfl ?_)
            refine x_op rfl (x_val (r_sub rfl rfl ⟨by omega, by omega⟩) rfl ?_)
            refine x_op rfl (x_val (r_assign rfl) rfl ?_)
            refine x_nil ?_
            refine x_there ((leV (sampB dp z) : Int) - 1 * 2 ^ (8 * (wideN dp : Int)).toNat) (by repeat (first | exact trivial | refine ⟨rfl, ?_⟩)) (fun _ h => h.pick_ [0, 1, 2, 3, 4, 5, 6, 7] (by decide)) ⟨hd2.2.1 h60, by omega, by omega⟩
          · refine x_nil ?_
            refine x_false rfl ?_
            refine x_skip ?_
            refine x_there ((leV (sampB dp z) : Int)) (by repeat (first | exact trivial | refine ⟨rfl, ?_⟩)) (fun _ h => h.pick_ [0, 1, 2, 3, 4, 5, 6, 7] (by decide)) ⟨hd2.2.2 h60, by omega, by omega⟩
      · rintro y ⟨hy, hyb⟩
        refine x_nfe (e' := [_, _, _, _, _, _, _, _, _, _]) (L' := [bl _ _ #[_, _], _, _, _, _, bl _ _ #[_, _, _, _, _], _, bl _ _ #[_, _, _, _, _]]) rfl rfl ?_
        refine x_seq ?_
        refine x_region ?_
        refine x_op rfl (x_val (r_move rfl) rfl ?_)
        refine x_op rfl (x_val (r_fieldAddr Ty.q48_0 rfl) rfl ?_)
        refine x_op rfl (x_val (r_fieldAddr Ty.q23_0 rfl) rfl ?_)
        refine x_op rfl (x_val (r_own_add (i := 5) Ty.z3 rfl rfl rfl) rfl ?_)
        rcases hside with ⟨hj, hzx, e0, e1⟩ | ⟨hj, hk2, hzx, e1, e0⟩
        · refine x_op rfl (x_val (r_remE (r := 0) rfl rfl ⟨by omega, by omega, by omega⟩ (by omega)) rfl ?_)
          refine x_op rfl (x_val (r_assign rfl) rfl ?_)
          refine x_nil ?_
          refine x_textP [0, 4, 5, 6, 7] (by kernel_rfl) (by decide) ?_
          refine x_tk rfl (r_fieldAddr Ty.q29_2 rfl) rfl (fun _ h => h.pick_ [0, 4, 5, 6, 7] (by decide)) ?_
          refine x_tk rfl (r_own_add (i := 1) Ty.z25 rfl rfl rfl) rfl (fun _ h => h.pick_ [0, 4, 5, 6, 7] (by decide)) ?_
          refine x_tk rfl (r_move rfl) rfl (fun _ h => h.pick_ [0, 4, 5, 6, 7] (by decide)) ?_
          refine x_tk rfl (r_fieldAddr Ty.q29_2 rfl) rfl (fun _ h => h.pick_ [0, 4, 5, 6, 7] (by decide)) ?_
          refine x_tk rfl (r_own_add (i := 1) Ty.z25 rfl rfl rfl) rfl (fun _ h => h.pick_ [0, 4, 5, 6, 7] (by decide)) ?_
          refine x_tk rfl (r_move rfl) rfl (fun _ h => h.pick_ [0, 4, 5, 6, 7] (by decide)) ?_
          refine x_tk rfl (r_indexAddr Tryd.underlying25 Ty.i41 rfl rfl ⟨by omega, by omega⟩) rfl (fun _ h => h.pick_ [0, 4, 5, 6, 7] (by decide)) ?_
          refine x_tany ?_
          refine x_take 8 rfl (by kernel_rfl) rfl (r_move rfl) rfl (fun _ h => h.pick_ [0, 4, 5, 6, 7] (by decide)) ?_
          refine x_take 9 rfl (by kernel_rfl) rfl (r_move rfl) rfl (fun _ h => h.pick_ [0, 4, 5, 6, 7] (by decide)) ?_
          refine x_take 10 rfl (by kernel_rfl) rfl (r_mul rfl rfl ⟨by omega, by omega⟩) rfl (fun _ h => h.pick_ [0, 4, 5, 6, 7] (by decide)) ?_
          refine x_take 11 rfl (by kernel_rfl) rfl (r_fieldAddr Ty.q48_0 rfl) rfl (fun _ h => h.pick_ [0, 4, 5, 6, 7] (by decide)) ?_
          refine x_take 12 rfl (by kernel_rfl) rfl (r_fieldAddr Ty.q23_1 rfl) rfl (fun _ h => h.pick_ [0, 4, 5, 6, 7] (by decide)) ?_
          refine x_take 13 rfl (by kernel_rfl) rfl (r_own_add (i := 2) Ty.z3 rfl rfl rfl) rfl (fun _ h => h.pick_ [0, 4, 5, 6, 7] (by decide)) ?_
          refine x_take 14 rfl (by kernel_rfl) rfl (r_sub rfl rfl ⟨by omega, by omega⟩) rfl (fun _ h => h.pick_ [0, 4, 5, 6, 7] (by decide)) ?_
          refine x_take 15 rfl (by kernel_rfl) rfl (r_shr (shM dp) rfl rfl rfl ⟨by omega, by omega⟩) rfl (fun _ h => h.pick_ [0, 4, 5, 6, 7] (by decide)) ?_
          refine x_all [7, 16] (by kernel_rfl) ⟨?_, ?_, trivial⟩
          · refine x_do rfl rfl (x_val (r_load1 (v := .slice A0 (k0 k n) c0) Ty.z41 rfl (fun w hS => Own.sv0 hS (i := 1) h2 rfl)) rfl (x_and (fun _ h => h.pick_ [0, 4, 5, 6, 7] (by decide)) ?_))
            refine x_all [16] (by kernel_rfl) ⟨?_, trivial⟩
            refine x_do rfl rfl (s_buildSlice Tryd.underlying41 Ty.i3 rfl rfl rfl rfl fun b87 hb87 => x_and (fun _ h => h.pick_ [1, 5, 6, 7, 8] (by decide)) ?_)
            refine x_all [17] (by kernel_rfl) ⟨?_, trivial⟩
            refine x_do rfl rfl (s_append (i := 3) (news := [.int .i64 (y / shM dp)]) Tryd.underlying41 Ty.i3 rfl (by decide) rfl rfl rfl rfl hA0 (fun w hO => hO.rd_bl (i := 0) rfl rfl (by simp [maxLen]) rfl) (fun u hu => by simp at hu; subst hu; rfl) (by simp only [maxLen]; omega) (by omega) fun A2 ca2 hA2 => x_and (fun _ h => h.pick_ [1, 5, 6, 7, 8] (by decide)) ?_)
            refine x_take 18 rfl (by kernel_rfl) rfl (r_indexAddr Tryd.underlying25 Ty.i41 rfl rfl ⟨by omega, by omega⟩) rfl (fun _ h => h.pick_ [1, 5, 6, 7, 8] (by decide)) ?_
            refine x_all [19] (by kernel_rfl) ⟨?_, trivial⟩
            refine x_do rfl rfl (s_storeSv0 (i := 2) h2 Ty.z41 rfl rfl rfl (x_and (fun _ h => h.pick_ [1, 5, 6, 7, 8] (by decide)) ?_))
            refine x_nf (L' := [_, bl _ _ #[_, _], _, _, _, _, bl _ _ #[_, _, _, _, _], _, bl _ _ #[_, _, _, _, _]]) rfl ?_
            refine x_done (by kernel_rfl) ?_
            refine x_region ?_
            refine x_op rfl (x_val (r_add rfl rfl ⟨by omega, by omega⟩) rfl ?_)
            refine x_op rfl (x_val (r_move rfl) rfl ?_)
            refine x_nil ?_
            refine x_again (s := DS.mk n A0 c0 A1 c1 B' m' c') (DS.mk (n + 1) A2 ca2 A1 c1 B2 m2 c2) (by repeat (first | exact trivial | refine ⟨rfl, ?_⟩)) (fun _ h => by simp only [e0, e1, take_snoc hzx, ← hy]; exact h.pick_ [1, 2, 3, 4, 5, 6, 7, 8] (by decide)) ⟨by simp only []; omega, by simp only [e0, take_snoc hzx, ← hy]; exact hA2, by simp only [e1]; exact hA1, hC2⟩ (by simp only []; omega)
          · refine x_do rfl rfl (s_buildSlice Tryd.underlying41 Ty.i3 rfl rfl rfl rfl fun b87 hb87 => x_and (fun _ h => h.pick_ [1, 5, 6, 7, 8] (by decide)) ?_)
            refine x_all [7] (by kernel_rfl) ⟨?_, trivial⟩
            refine x_do rfl rfl (x_val (r_load1 (v := .slice A0 (k0 k n) c0) Ty.z41 rfl (fun w hS => Own.sv0 hS (i := 2) h2 rfl)) rfl (x_and (fun _ h => h.pick_ [1, 5, 6, 7, 8] (by decide)) ?_))
            refine x_all [17] (by kernel_rfl) ⟨?_, trivial⟩
            refine x_do rfl rfl (s_append (i := 3) (news := [.int .i64 (y / shM dp)]) Tryd.underlying41 Ty.i3 rfl (by decide) rfl rfl rfl rfl hA0 (fun w hO => hO.rd_bl (i := 0) rfl rfl (by simp [maxLen]) rfl) (fun u hu => by simp at hu; subst hu; rfl) (by simp only [maxLen]; omega) (by omega) fun A2 ca2 hA2 => x_and (fun _ h => h.pick_ [1, 5, 6, 7, 8] (by decide)) ?_)
            refine x_take 18 rfl (by kernel_rfl) rfl (r_indexAddr Tryd.underlying25 Ty.i41 rfl rfl ⟨by omega, by omega⟩) rfl (fun _ h => h.pick_ [1, 5, 6, 7, 8] (by decide)) ?_
            refine x_all [19] (by kernel_rfl) ⟨?_, trivial⟩
            refine x_do rfl rfl (s_storeSv0 (i := 2) h2 Ty.z41 rfl rfl rfl (x_and (fun _ h => h.pick_ [1, 5, 6, 7, 8] (by decide)) ?_))
            refine x_nf (L' := [_, bl _ _ #[_, _], _, _, _, _, bl _ _ #[_, _, _, _, _], _, bl _ _ #[_, _, _, _, _]]) rfl ?_
            refine x_done (by kernel_rfl) ?_
            refine x_region ?_
            refine x_op rfl (x_val (r_add rfl rfl ⟨by omega, by omega⟩) rfl ?_)
            refine x_op rfl (x_val (r_move rfl) rfl ?_)
            refine x_nil ?_
            refine x_again (s := DS.mk n A0 c0 A1 c1 B' m' c') (DS.mk (n + 1) A2 ca2 A1 c1 B2 m2 c2) (by repeat (first | exact trivial | refine ⟨rfl, ?_⟩)) (fun _ h => by simp only [e0, e1, take_snoc hzx, ← hy]; exact h.pick_ [1, 2, 3, 4, 5, 6, 7, 8] (by decide)) ⟨by simp only []; omega, by simp only [e0, take_snoc hzx, ← hy]; exact hA2, by simp only [e1]; exact hA1, hC2⟩ (by simp only []; omega)
        · refine x_op rfl (x_val (r_remE (r := 1) rfl rfl ⟨by omega, by omega, by omega⟩ (by omega)) rfl ?_)
          refine x_op rfl (x_val (r_assign rfl) rfl ?_)
          refine x_nil ?_
          refine x_textP [0, 4, 5, 6, 7] (by kernel_rfl) (by decide) ?_
          refine x_tk rfl (r_fieldAddr Ty.q29_2 rfl) rfl (fun _ h => h.pick_ [0, 4, 5, 6, 7] (by decide)) ?_
          refine x_tk rfl (r_own_add (i := 1) Ty.z25 rfl rfl rfl) rfl (fun _ h => h.pick_ [0, 4, 5, 6, 7] (by decide)) ?_
          refine x_tk rfl (r_move rfl) rfl (fun _ h => h.pick_ [0, 4, 5, 6, 7] (by decide)) ?_
          refine x_tk rfl (r_fieldAddr Ty.q29_2 rfl) rfl (fun _ h => h.pick_ [0, 4, 5, 6, 7] (by decide)) ?_
          refine x_tk rfl (r_own_add (i := 1) Ty.z25 rfl rfl rfl) rfl (fun _ h => h.pick_ [0, 4, 5, 6, 7] (by decide)) ?_
          refine x_tk rfl (r_move rfl) rfl (fun _ h => h.pick_ [0, 4, 5, 6, 7] (by decide)) ?_
          refine x_tk rfl (r_indexAddr Tryd.underlying25 Ty.i41 rfl rfl ⟨by omega, by omega⟩) rfl (fun _ h => h.pick_ [0, 4, 5, 6, 7] (by decide)) ?_
          refine x_tany ?_
          refine x_take 8 rfl (by kernel_rfl) rfl (r_move rfl) rfl (fun _ h => h.pick_ [0, 4, 5, 6, 7] (by decide)) ?_
          refine x_take 9 rfl (by kernel_rfl) rfl (r_move rfl) rfl (fun _ h => h.pick_ [0, 4, 5, 6, 7] (by decide)) ?_
          refine x_take 10 rfl (by kernel_rfl) rfl (r_mul rfl rfl ⟨by omega, by omega⟩) rfl (fun _ h => h.pick_ [0, 4, 5, 6, 7] (by decide)) ?_
          refine x_take 11 rfl (by kernel_rfl) rfl (r_fieldAddr Ty.q48_0 rfl) rfl (fun _ h => h.pick_ [0, 4, 5, 6, 7] (by decide)) ?_
          refine x_take 12 rfl (by kernel_rfl) rfl (r_fieldAddr Ty.q23_1 rfl) rfl (fun _ h => h.pick_ [0, 4, 5, 6, 7] (by decide)) ?_
          refine x_take 13 rfl (by kernel_rfl) rfl (r_own_add (i := 2) Ty.z3 rfl rfl rfl) rfl (fun _ h => h.pick_ [0, 4, 5, 6, 7] (by decide)) ?_
          refine x_take 14 rfl (by kernel_rfl) rfl (r_sub rfl rfl ⟨by omega, by omega⟩) rfl (fun _ h => h.pick_ [0, 4, 5, 6, 7] (by decide)) ?_
          refine x_take 15 rfl (by kernel_rfl) rfl (r_shr (shM dp) rfl rfl rfl ⟨by omega, by omega⟩) rfl (fun _ h => h.pick_ [0, 4, 5, 6, 7] (by decide)) ?_
          refine x_all [7, 16] (by kernel_rfl) ⟨?_, ?_, trivial⟩
          · refine x_do rfl rfl (x_val (r_load1 (v := .slice A1 (k1 k n) c1) Ty.z41 rfl (fun w hS => Own.sv1 hS (i := 1) hk2 rfl)) rfl (x_and (fun _ h => h.pick_ [0, 4, 5, 6, 7] (by decide)) ?_))
            refine x_all [16] (by kernel_rfl) ⟨?_, trivial⟩
            refine x_do rfl rfl (s_buildSlice Tryd.underlying41 Ty.i3 rfl rfl rfl rfl fun b87 hb87 => x_and (fun _ h => h.pick_ [1, 5, 6, 7, 8] (by decide)) ?_)
            refine x_all [17] (by kernel_rfl) ⟨?_, trivial⟩
            refine x_do rfl rfl (s_append (i := 4) (news := [.int .i64 (y / shM dp)]) Tryd.underlying41 Ty.i3 rfl (by decide) rfl rfl rfl rfl hA1 (fun w hO => hO.rd_bl (i := 0) rfl rfl (by simp [maxLen]) rfl) (fun u hu => by simp at hu; subst hu; rfl) (by simp only [maxLen]; omega) (by omega) fun A2 ca2 hA2 => x_and (fun _ h => h.pick_ [1, 5, 6, 7, 8] (by decide)) ?_)
            refine x_take 18 rfl (by kernel_rfl) rfl (r_indexAddr Tryd.underlying25 Ty.i41 rfl rfl ⟨by omega, by omega⟩) rfl (fun _ h => h.pick_ [1, 5, 6, 7, 8] (by decide)) ?_
            refine x_all [19] (by kernel_rfl) ⟨?_, trivial⟩
            refine x_do rfl rfl (s_storeSv1 (i := 2) hk2 Ty.z41 rfl rfl rfl (x_and (fun _ h => h.pick_ [1, 5, 6, 7, 8] (by decide)) ?_))
            refine x_nf (L' := [_, bl _ _ #[_, _], _, _, _, _, bl _ _ #[_, _, _, _, _], _, bl _ _ #[_, _, _, _, _]]) rfl ?_
            refine x_done (by kernel_rfl) ?_
            refine x_region ?_
            refine x_op rfl (x_val (r_add rfl rfl ⟨by omega, by omega⟩) rfl ?_)
            refine x_op rfl (x_val (r_move rfl) rfl ?_)
            refine x_nil ?_
            refine x_again (s := DS.mk n A0 c0 A1 c1 B' m' c') (DS.mk (n + 1) A0 c0 A2 ca2 B2 m2 c2) (by repeat (first | exact trivial | refine ⟨rfl, ?_⟩)) (fun _ h => by simp only [e0, e1, take_snoc hzx, ← hy]; exact h.pick_ [1, 2, 3, 4, 5, 6, 7, 8] (by decide)) ⟨by simp only []; omega, by simp only [e0]; exact hA0, by simp only [e1, take_snoc hzx, ← hy]; exact hA2, hC2⟩ (by simp only []; omega)
          · refine x_do rfl rfl (s_buildSlice Tryd.underlying41 Ty.i3 rfl rfl rfl rfl fun b87 hb87 => x_and (fun _ h => h.pick_ [1, 5, 6, 7, 8] (by decide)) ?_)
            refine x_all [7] (by kernel_rfl) ⟨?_, trivial⟩
            refine x_do rfl rfl (x_val (r_load1 (v := .slice A1 (k1 k n) c1) Ty.z41 rfl (fun w hS => Own.sv1 hS (i := 2) hk2 rfl)) rfl (x_and (fun _ h => h.pick_ [1, 5, 6, 7, 8] (by decide)) ?_))
            refine x_all [17] (by kernel_rfl) ⟨?_, trivial⟩
            refine x_do rfl rfl (s_append (i := 4) (news := [.int .i64 (y / shM dp)]) Tryd.underlying41 Ty.i3 rfl (by decide) rfl rfl rfl rfl hA1 (fun w hO => hO.rd_bl (i := 0) rfl rfl (by simp [maxLen]) rfl) (fun u hu => by simp at hu; subst hu; rfl) (by simp only [maxLen]; omega) (by omega) fun A2 ca2 hA2 => x_and (fun _ h => h.pick_ [1, 5, 6, 7, 8] (by decide)) ?_)
            refine x_take 18 rfl (by kernel_rfl) rfl (r_indexAddr Tryd.underlying25 Ty.i41 rfl rfl ⟨by omega, by omega⟩) rfl (fun _ h => h.pick_ [1, 5, 6, 7, 8] (by decide)) ?_
            refine x_all [19] (by kernel_rfl) ⟨?_, trivial⟩
            refine x_do rfl rfl (s_storeSv1 (i := 2) hk2 Ty.z41 rfl rfl rfl (x_and (fun _ h => h.pick_ [1, 5, 6, 7, 8] (by decide)) ?_))
            refine x_nf (L' := [_, bl _ _ #[_, _], _, _, _, _, bl _ _ #[_, _, _, _, _], _, bl _ _ #[_, _, _, _, _]]) rfl ?_
            refine x_done (by kernel_rfl) ?_
            refine x_region ?_
            refine x_op rfl (x_val (r_add rfl rfl ⟨by omega, by omega⟩) rfl ?_)
            refine x_op rfl (x_val (r_move rfl) rfl ?_)
            refine x_nil ?_
            refine x_again (s := DS.mk n A0 c0 A1 c1 B' m' c') (DS.mk (n + 1) A0 c0 A2 ca2 B2 m2 c2) (by repeat (first | exact trivial | refine ⟨rfl, ?_⟩)) (fun _ h => by simp only [e0, e1, take_snoc hzx, ← hy]; exact h.pick_ [1, 2, 3, 4, 5, 6, 7, 8] (by decide)) ⟨by simp only []; omega, by simp only [e0]; exact hA0, by simp only [e1, take_snoc hzx, ← hy]; exact hA2, hC2⟩ (by simp only []; omega)
    · refine x_nil ?_
      refine x_seq ?_
      refine x_false rfl ?_
      refine x_exit rfl ?_
      refine x_seq ?_
      refine x_seq ?_
      have hnn : n = nt := by omega
      subst hnn
      subst hnt
      rw [hP.k0_end.1, List.take_length] at hA0
      rw [hP.k0_end.2, List.take_length] at hA1
      rw [hP.k0_end.1, hP.k0_end.2, List.take_length, List.take_length]
      refine x_region ?_
      refine x_op rfl (x_val (r_ownN (i := 4) Ty.z29 rfl rfl rfl) rfl ?_)
      refine x_op rfl (s_call Ty.c6 rfl rfl (fun w hw => EncodeP k dp rt T1 (some ⟨bM, 0, none⟩) ct1 k ts (A0, xs.length, c0) (A1, ys.length, c1) xs ys w hP hok (hw.rd_sl (i := 6) rfl hT1) (hw.rd_bl (i := 1) rfl (by simp [slcs, pairOf_length h2]) (by simp only [maxLen]; omega) (by rw [svCells]; exact List.take_of_length_le (by simp [slcs, pairOf_length h2]))) ⟨rfl, hA0, hw.rd_sl (i := 2) rfl hA0⟩ ⟨rfl, hA1, hw.rd_sl (i := 3) rfl hA1⟩ (hw.glob hg)) (fun wq v wq1 hw h => ?_))
      obtain ⟨E1, ce, rfl, hE, hO⟩ := h
      refine ⟨_, hw.call0 hO, ?_⟩
      refine x_nf (L' := [_, bl _ _ #[_, _], _, _, _, _, bl _ _ #[_, _, _, _, _], _, bl _ _ #[_, _, _, _, _]]) rfl ?_
      refine x_op rfl (x_val (r_move rfl) rfl ?_)
      refine x_op rfl (x_val (r_extract rfl rfl) rfl ?_)
      refine x_op rfl (x_val (r_extract rfl rfl) rfl ?_)
      refine x_op rfl (x_val (r_assign rfl) rfl ?_)
      refine x_op rfl (x_val (r_assign rfl) rfl ?_)
      refine x_nil ?_
      refine x_seq ?_
      refine x_region ?_
      refine x_op rfl (x_val (r_move rfl) rfl ?_)
      refine x_op rfl (x_val (r_neq rfl rfl rfl) rfl ?_)
      refine x_op rfl (x_val (r_move rfl) rfl ?_)
      refine x_op rfl (x_val (r_move rfl) rfl ?_)
      refine x_op rfl (x_val (r_move rfl) rfl ?_)
      refine x_op rfl (s_call Ty.c20 rfl rfl (fun w hw => Equal_same B E1 c ce _ _ _ w rfl rfl (hw.rd0 hr) (hw.rd_sl (i := 0) rfl hE)) (fun wq v wq1 hw h => ?_))
      obtain ⟨rfl, hO⟩ := h
      refine ⟨_, hw.call0 hO, ?_⟩
      refine x_nf (L' := [_, bl _ _ #[_, _], _, _, _, _, bl _ _ #[_, _, _, _, _], _, bl _ _ #[_, _, _, _, _]]) rfl ?_
      refine x_op rfl (x_val (r_not rfl rfl) rfl ?_)
      refine x_op rfl (x_val (r_pick_f rfl rfl) rfl ?_)
      refine x_nil ?_
      refine x_false rfl ?_
      refine x_skip ?_
      refine x_seq ?_
      refine x_region ?_
      refine x_op rfl (x_val (r_ownN (i := 5) Ty.z29 rfl rfl rfl) rfl ?_)
      refine x_op rfl (s_store (i := 8) Ty.z29 rfl rfl rfl rfl rfl rfl ?_)
      refine x_nf (L' := [_, bl _ _ #[_, _], _, _, _, _, bl _ _ #[_, _, _, _, _], _, bl _ _ #[_, _, _, _, _]]) rfl ?_
      refine x_op rfl (x_val (r_assign rfl) rfl ?_)
      refine x_nil ?_
      refine x_ret ?_
      -- path F
      exact x_rets (rs := []) (vs := []) rfl ⟨res_own (i := 8) (cs := [.int .i64 k, .int .i64 dp, .int .i64 rt, .slice T1 ts.length ct1, .slice (some ⟨bM, 0, none⟩) k k]) rfl rfl Ty.z29 rfl, rfl, trivial⟩ fun w1 hO => ⟨_, rfl, T1, ct1, bM, A0, c0, A1, c1, rfl, hT1, hA0, hA1, hO.pick_ [7, 2, 3, 4] (by decide)⟩
end Go.Proofs.YtlpoepmipbegaaaDoor.Wv
