/- wav.Encode. -/
import Derived.Test.YtlpoepmipbegaaaDoorV7
set_option linter.unusedVariables false
set_option linter.unusedSimpArgs false
namespace Go.Proofs.YtlpoepmipbegaaaDoor.Wv
open Go Go.RowKit Go.Proofs.YtlpoepmipbegaaaDoor.En
def wideN (dp : Int) : Nat := ((dp + 7) / 8).toNat
def shM (dp : Int) : Int := 2 ^ (8 * (wideN dp : Int) - dp).toNat
theorem dp_cases {dp : Int} (h : 4 ≤ dp ∧ dp ≤ 24) : ∃ P : Int, (2 : Int) ^ (dp - 1).toNat = P ∧ 1 ≤ P ∧ P ≤ 8388608 ∧ 1 ≤ shM dp ∧ shM dp ≤ 128 ∧ 0 ≤ 8 * (wideN dp : Int) - dp ∧ 8 * (wideN dp : Int) - dp ≤ 7 ∧
    ((wideN dp = 1 ∧ P * shM dp = 128) ∨ (wideN dp = 2 ∧ P * shM dp = 32768) ∨ (wideN dp = 3 ∧ P * shM dp = 8388608)) := by
  have h1 : dp = 4 ∨ dp = 5 ∨ dp = 6 ∨ dp = 7 ∨ dp = 8 ∨ dp = 9 ∨ dp = 10 ∨ dp = 11 ∨ dp = 12 ∨ dp = 13 ∨ dp = 14 ∨ dp = 15 ∨ dp = 16 ∨ dp = 17 ∨ dp = 18 ∨ dp = 19 ∨ dp = 20 ∨ dp = 21 ∨ dp = 22 ∨ dp = 23 ∨ dp = 24 := by omega
  rcases h1 with rfl | rfl | rfl | rfl | rfl | rfl | rfl | rfl | rfl | rfl | rfl | rfl | rfl | rfl | rfl | rfl | rfl | rfl | rfl | rfl | rfl <;> exact ⟨_, rfl, by decide, by decide, by decide, by decide, by decide, by decide, by decide⟩
theorem wideN_cast {dp : Int} (h : 4 ≤ dp ∧ dp ≤ 24) : (dp + 7) / 8 = (wideN dp : Int) := by unfold wideN; omega
theorem wideN_bd {dp : Int} (h : 4 ≤ dp ∧ dp ≤ 24) : 1 ≤ wideN dp ∧ wideN dp ≤ 3 := by unfold wideN; omega
theorem blk_bd {ch dp : Int} (h1 : 1 ≤ ch ∧ ch ≤ 2) (h : 4 ≤ dp ∧ dp ≤ 24) : 1 ≤ blk ch dp ∧ blk ch dp ≤ 6 := by
  unfold blk
  have h2 : ch = 1 ∨ ch = 2 := by omega
  rcases h2 with rfl | rfl <;> omega
theorem rblk_bd {ch dp rt : Int} (h1 : 1 ≤ ch ∧ ch ≤ 2) (h : 4 ≤ dp ∧ dp ≤ 24) (h3 : 1 ≤ rt ∧ rt ≤ 655350) : 1 ≤ rt * blk ch dp ∧ rt * blk ch dp ≤ 10000000 := by
  obtain ⟨a, b⟩ := blk_bd h1 h
  refine ⟨?_, Int.le_trans (Int.mul_le_mul h3.2 b (by omega) (by omega)) (by decide)⟩
  have := Int.mul_le_mul h3.1 a (by omega) (by omega)
  simpa using this
/-- What a sample becomes, shifted to whole bytes. -/
def sampV (dp x : Int) : Int := if wideN dp = 1 then x * shM dp + 128 else x * shM dp
def sampB (dp x : Int) : List UInt8 := le (sampV dp x) (wideN dp)
theorem mul_bd {x P M : Int} (hM : 1 ≤ M) (hx : -P ≤ x ∧ x ≤ P - 1) : -(P * M) ≤ x * M ∧ x * M + M ≤ P * M := by
  constructor
  · have := Int.mul_le_mul_of_nonneg_right hx.1 (show 0 ≤ M by omega)
    rw [Int.neg_mul] at this
    exact this
  · have := Int.mul_le_mul_of_nonneg_right (show x + 1 ≤ P by omega) (show 0 ≤ M by omega)
    rw [Int.add_mul, Int.one_mul] at this
    exact this
theorem fits_bd {dp x P : Int} (hP : (2 : Int) ^ (dp - 1).toNat = P) (h1 : 1 ≤ P) (hf : fits dp x) : -P ≤ x ∧ x ≤ P - 1 := by
  unfold fits at hf
  rw [hP] at hf
  have h2 := Int.emod_add_mul_ediv x P
  have h3 := Int.emod_nonneg x (show P ≠ 0 by omega)
  have h4 := Int.emod_lt_of_pos x (show 0 < P by omega)
  rcases hf with hf | hf <;> rw [hf] at h2 <;> omega
theorem samp_bd {dp x : Int} (h : 4 ≤ dp ∧ dp ≤ 24) (hf : fits dp x) : -8388608 ≤ x * shM dp ∧ x * shM dp ≤ 8388608 := by
  obtain ⟨P, hP, h1, h2, h3, h4, h5, h6, h7⟩ := dp_cases h
  have hx := fits_bd hP h1 hf
  have hm := mul_bd h3 hx
  rcases h7 with ⟨_, h7⟩ | ⟨_, h7⟩ | ⟨_, h7⟩ <;> omega
def rowB (dp : Int) (chs : List (List Int)) (i : Nat) : List UInt8 := chs.flatMap fun xs => sampB dp (xs[i]?.getD 0)
def dataB (dp : Int) (chs : List (List Int)) (n : Nat) : List UInt8 := (List.range n).flatMap (rowB dp chs)
theorem rowB_take {dp : Int} {chs : List (List Int)} {i j : Nat} {xs : List Int} {x : Int} (h : chs[j]? = some xs) (hx : xs[i]? = some x) : rowB dp (chs.take (j + 1)) i = rowB dp (chs.take j) i ++ sampB dp x := by
  rw [List.take_add_one, h]
  simp [rowB, hx]
theorem dataB_succ (dp : Int) (chs : List (List Int)) (n : Nat) : dataB dp chs (n + 1) = dataB dp chs n ++ rowB dp chs n := by simp [dataB, List.range_succ]
theorem rowB_length (dp : Int) : ∀ (chs : List (List Int)) (i : Nat), (rowB dp chs i).length = chs.length * wideN dp
  | [], i => by simp [rowB]
  | a :: r, i => by
    have := rowB_length dp r i
    simp only [rowB, List.flatMap_cons, List.length_append, sampB, le_length, List.length_cons, Nat.add_mul, Nat.one_mul] at this ⊢
    omega
theorem dataB_length (dp : Int) (chs : List (List Int)) : ∀ n : Nat, (dataB dp chs n).length = n * (chs.length * wideN dp)
  | 0 => by simp [dataB]
  | n + 1 => by rw [dataB_succ, List.length_append, dataB_length dp chs n, rowB_length, Nat.add_mul, Nat.one_mul]
theorem data_small {dp : Int} {chs : List (List Int)} {n : Nat} (h : 4 ≤ dp ∧ dp ≤ 24) (hc : chs.length ≤ 2) (hn : n ≤ 4096) : (dataB dp chs n).length ≤ 24576 := by
  rw [dataB_length]
  have h1 := (wideN_bd h).2
  exact Nat.le_trans (Nat.mul_le_mul hn (Nat.mul_le_mul hc h1)) (by decide)
def chN (chs : List (List Int)) : Nat := (chs.head?.getD []).length
def encB (ch dp rt : Int) (ts : List ByteArray) (chs : List (List Int)) : List UInt8 := fileB ch dp rt ts (dataB dp chs (chN chs))
theorem wideN_ (ch dp rt : Int) (w : World) (h : 4 ≤ dp ∧ dp ≤ 24) :
    Calls Tryd.prog 14 #[.agg #[.int .i64 ch, .int .i64 dp, .int .i64 rt]] w fun en w1 => ∃ r, en = .returned r ∧ (r = .int .i64 (wideN dp : Int) ∧ Own w [] [] w1) := by
  have := wide_ ch dp rt w (by omega)
  rw [wideN_cast h] at this
  exact this
set_option maxHeartbeats 2000000 in
set_option maxRecDepth 20000 in
theorem Encode_ (ch dp rt : Int) (T C : Option Addr) (ct cc : Nat) (ts : List ByteArray) (vs : List Sv) (chs : List (List Int)) (w : World) (hT : Rd w T ts.length 1 (strs ts)) (hts : ∀ t ∈ ts, t.size < 4294967281) (htn : ts.length ≤ 1000000000) (hC : Rd w C vs.length 1 (slcs vs)) (hch : ChOk w vs chs) (hcn : vs.length ≤ 1000000000) (hg : Glob w) :
    Calls Tryd.prog 6 #[.agg #[.int .i64 ch, .int .i64 dp, .int .i64 rt, .slice T ts.length ct, .slice C vs.length cc]] w fun en w1 => ∃ r, en = .returned r ∧
      ((¬ TrackOk ch dp rt ts chs ∧ ∃ e : Int, e ≠ 0 ∧ r = .tuple #[.slice none 0 0, .int .i64 e] ∧ Own w [] [] w1) ∨
       (TrackOk ch dp rt ts chs ∧ ∃ A' cap', r = .tuple #[.slice A' (encB ch dp rt ts chs).length cap', .int .i64 0] ∧ BOk A' cap' (encB ch dp rt ts chs) ∧ Own w [] [SB 5 A' cap' (encB ch dp rt ts chs)] w1)) := by
  have hlen := hch.1
  refine fn_enter (args := [_]) (F := []) Tryd.func6 rfl rfl rfl ?_
  refine x_seq ?_
  refine x_region ?_
  refine x_op rfl (s_box rfl rfl fun b1 hb1 => ?_)
  refine x_op rfl (x_val (r_assign rfl) rfl ?_)
  refine x_op rfl (x_val (r_assign rfl) rfl ?_)
  refine x_nil ?_
  refine x_seq ?_
  refine x_seq ?_
  refine x_region ?_
  refine x_op rfl (x_val (r_ownN (i := 0) Ty.z29 rfl rfl rfl) rfl ?_)
  refine x_op rfl (s_call Ty.c13 rfl rfl (fun w hw => Check_ ch dp rt T C ct cc ts vs chs w (hw.rd0 hT) hts htn (hw.rd0 hC) (hch.keep hw) hcn (hw.glob hg)) (fun wq v wq1 hw h => ?_))
  obtain ⟨er, rfl, hiff, hO⟩ := h
  refine ⟨_, hw.call0 hO, ?_⟩
  refine x_nf (L' := [bl _ _ #[_, _, _, _, _]]) rfl ?_
  refine x_op rfl (x_val (r_assign rfl) rfl ?_)
  refine x_nil ?_
  refine x_seq ?_
  refine x_region ?_
  refine x_op rfl (x_val (r_move rfl) rfl ?_)
  refine x_op rfl (x_val (r_neq rfl rfl rfl) rfl (x_dec (fun h14 => ?_) (fun h14 => ?_)))
  · refine x_nil ?_
    refine x_true rfl ?_
    refine x_seq ?_
    refine x_region ?_
    refine x_op rfl (x_val (r_move rfl) rfl ?_)
    refine x_op rfl (x_val (r_assign rfl) rfl ?_)
    refine x_op rfl (x_val (r_assign rfl) rfl ?_)
    refine x_nil ?_
    refine x_ret ?_
    -- path T
    exact x_rets (rs := []) (vs := []) rfl ⟨rfl, rfl, trivial⟩ fun w1 hO => ⟨_, rfl, .inl ⟨fun h => h14 (hiff.2 h), _, h14, rfl, hO.none_⟩⟩
  · refine x_nil ?_
    refine x_false rfl ?_
    refine x_skip ?_
    refine x_seq ?_
    have hok : TrackOk ch dp rt ts chs := hiff.1 (Decidable.byContradiction h14)
    obtain rfl : er = 0 := Decidable.byContradiction h14
    have hsh := hok.shape
    have hcN := hok.chN
    have htN := hok.tagsN
    have hdp : 4 ≤ dp ∧ dp ≤ 24 := by omega
    have hwb := wideN_bd hdp
    have hlens : ∀ xs ∈ chs, xs.length = chN chs ∧ chN chs ≤ 4096 := fun xs hx => by
      have h1 := hok.len xs hx
      have h2 : (xs.length : Int) = (chN chs : Int) := h1.2
      omega
    obtain ⟨P, hP, hP1, hP2, hM1, hM2, hs0, hs7, hPM⟩ := dp_cases hdp
    refine x_region ?_
    refine x_op rfl (x_val (r_fieldAddr Ty.q29_0 rfl) rfl ?_)
    refine x_op rfl (x_val (r_own_at (i := 0) Ty.z23 rfl rfl rfl rfl) rfl ?_)
    refine x_op rfl (x_val (r_fieldAddr Ty.q29_1 rfl) rfl ?_)
    refine x_op rfl (x_val (r_own_add (i := 0) Ty.z24 rfl rfl rfl) rfl ?_)
    refine x_op rfl (x_val (r_build Ty.i48 Ty.p48 rfl rfl) rfl ?_)
    refine x_op rfl (s_alloc Ty.i48 rfl fun b5 hb5 => ?_)
    refine x_op rfl (s_store (i := 0) Ty.z48 rfl rfl rfl rfl rfl rfl ?_)
    refine x_nf (L' := [bl _ _ #[_, _, _, _, _], bl _ _ #[_, _, _, _, _]]) rfl ?_
    refine x_nil ?_
    refine x_seq ?_
    refine x_region ?_
    refine x_op rfl (x_val (r_fieldAddr Ty.q29_0 rfl) rfl ?_)
    refine x_op rfl (x_val (r_own_at (i := 1) Ty.z23 rfl rfl rfl rfl) rfl ?_)
    refine x_op rfl (s_call Ty.c14 rfl rfl (fun w hw => wideN_ ch dp rt w hdp) (fun wq v wq1 hw h => ?_))
    obtain ⟨rfl, hO⟩ := h
    refine ⟨_, hw.call0 hO, ?_⟩
    refine x_nf (L' := [bl _ _ #[_, _, _, _, _], bl _ _ #[_, _, _, _, _]]) rfl ?_
    refine x_op rfl (x_val (r_assign rfl) rfl ?_)
    refine x_nil ?_
    refine x_seq ?_
    refine x_seq ?_
    refine x_region ?_
    refine x_op rfl (x_val (r_fieldAddr Ty.q29_2 rfl) rfl ?_)
    refine x_op rfl (x_val (r_own_add (i := 1) Ty.z25 rfl rfl rfl) rfl ?_)
    obtain ⟨ad, rfl⟩ := hC.some_ (by omega)
    obtain ⟨v0, vr, rfl⟩ : ∃ v vr, vs = v :: vr := by cases vs with | nil => simp at hlen; omega | cons a b => exact ⟨a, b, rfl⟩
    obtain ⟨xs0, xr, rfl⟩ : ∃ x xr, chs = x :: xr := by cases chs with | nil => simp at hlen | cons a b => exact ⟨a, b, rfl⟩
    have hv0 := (hch.2 0 v0 xs0 rfl rfl).1
    have hn0 : chN (xs0 :: xr) = xs0.length := rfl
    refine x_op rfl (x_val (r_indexAddr Tryd.underlying25 Ty.i41 rfl rfl ⟨by omega, by omega⟩) rfl ?_)
    refine x_op rfl (x_val (r_load1 (v := .slice v0.1 v0.2.1 v0.2.2) Ty.z41 rfl (fun w hS => (hS.rd0 hC).cell_ (k := 0) (j := 0) (by simp) (by omega) rfl (slcs_get (by rfl)))) rfl ?_)
    refine x_op rfl (x_val (r_len_slice Tryd.underlying41 rfl) rfl ?_)
    rw [hv0, ← hn0]
    have hcN4 := (hlens xs0 (List.mem_cons_self ..)).2
    clear hn0 hv0
    generalize hvsE : v0 :: vr = vs at *
    generalize hchE : xs0 :: xr = chs at *
    clear hvsE hchE
    refine x_heap (L' := sl none 0 5 1 [] :: _) (fun w hO => hO.nilsl 5 1) ?_
    refine x_op rfl (x_val (r_move rfl) rfl ?_)
    refine x_nil ?_
    refine x_block ?_
    refine x_loopP (σ := Nat × Option Addr × Nat) [1, 5, 6, 28] [2] (fun s => [(29, .int .i64 s.1)]) (fun s => [bl b5 48 #[.int .i64 ch, .int .i64 dp, .int .i64 rt, .slice T ts.length ct, .slice s.2.1 (dataB dp chs s.1).length s.2.2], SB 5 s.2.1 s.2.2 (dataB dp chs s.1)]) (fun s => s.1 ≤ chN chs ∧ BOk s.2.1 s.2.2 (dataB dp chs s.1)) (fun s => chN chs - s.1) ((0, none, 0)) (by repeat (first | exact trivial | refine ⟨rfl, ?_⟩)) (fun _ h => h.pick_ [1, 0, 2] (by decide)) ⟨Nat.zero_le _, SlOk.nil_ 1⟩ ?_
    rintro ⟨i, A1, c1⟩ ⟨hi, hA1⟩; simp only [] at hi hA1 ⊢
    refine x_nfe (e' := [_, _, _, _, _]) (L' := [bl _ _ #[_, _, _, _, _], _, bl _ _ #[_, _, _, _, _]]) rfl rfl ?_
    refine x_seq ?_
    refine x_region ?_
    refine x_op rfl (x_val (r_lss rfl rfl rfl) rfl (x_dec (fun h30 => ?_) (fun h30 => ?_)))
    · refine x_nil ?_
      refine x_seq ?_
      refine x_true rfl ?_
      refine x_skip ?_
      refine x_seq ?_
      refine x_block ?_
      refine x_seq ?_
      refine x_region ?_
      refine x_op rfl (x_val (r_move rfl) rfl ?_)
      refine x_op rfl (x_val (r_assign rfl) rfl ?_)
      refine x_nil ?_
      refine x_seq ?_
      refine x_region ?_
      refine x_op rfl (x_val (r_fieldAddr Ty.q29_2 rfl) rfl ?_)
      refine x_op rfl (x_val (r_own_add (i := 2) Ty.z25 rfl rfl rfl) rfl ?_)
      refine x_op rfl (x_val (r_len_slice Tryd.underlying25 rfl) rfl ?_)
      refine x_op rfl (x_val (r_move rfl) rfl ?_)
      refine x_nil ?_
      refine x_block ?_
      have e0 : dataB dp chs i ++ rowB dp (chs.take 0) i = dataB dp chs i := by simp [rowB]
      refine x_loopP (σ := Nat × Option Addr × Nat) [1, 5, 6, 7, 28, 29, 33, 34] [2] (fun s => [(35, .int .i64 s.1)]) (fun s => [bl b5 48 #[.int .i64 ch, .int .i64 dp, .int .i64 rt, .slice T ts.length ct, .slice s.2.1 (dataB dp chs i ++ rowB dp (chs.take s.1) i).length s.2.2], SB 5 s.2.1 s.2.2 (dataB dp chs i ++ rowB dp (chs.take s.1) i)]) (fun s => s.1 ≤ vs.length ∧ BOk s.2.1 s.2.2 (dataB dp chs i ++ rowB dp (chs.take s.1) i)) (fun s => vs.length - s.1) ((0, A1, c1)) (by simp only [e0]; repeat (first | exact trivial | refine ⟨rfl, ?_⟩)) (fun _ h => by simp only [e0]; exact h.pick_ [0, 1, 2] (by decide)) ⟨Nat.zero_le _, by simp only [e0]; exact hA1⟩ ?_
      rintro ⟨j, A2, c2⟩ ⟨hj, hA2⟩; simp only [] at hj hA2 ⊢
      refine x_nfe (e' := [_, _, _, _, _, _, _, _, _]) (L' := [bl _ _ #[_, _, _, _, _], _, bl _ _ #[_, _, _, _, _]]) rfl rfl ?_
      refine x_seq ?_
      refine x_region ?_
      refine x_op rfl (x_val (r_lss rfl rfl rfl) rfl (x_dec (fun h36 => ?_) (fun h36 => ?_)))
      · refine x_nil ?_
        refine x_seq ?_
        refine x_true rfl ?_
        refine x_skip ?_
        refine x_seq ?_
        refine x_block ?_
        refine x_seq ?_
        refine x_region ?_
        have hjl : j < vs.length := by omega
        have hv : vs[j]? = some (vs[j]'hjl) := List.getElem?_eq_getElem hjl
        generalize vs[j]'hjl = v at hv
        have hx : chs[j]? = some (chs[j]'(by omega)) := List.getElem?_eq_getElem _
        generalize chs[j]'(by omega) = xs at hx
        obtain ⟨hv1, hv2, hv3, hv4⟩ := hch.2 j v xs hv hx
        have hxl := (hlens xs (List.mem_of_getElem? hx)).1
        have hxi : xs[i]? = some (xs[i]'(by omega)) := List.getElem?_eq_getElem _
        generalize xs[i]'(by omega) = x at hxi
        have hfx := hok.fit xs (List.mem_of_getElem? hx) x (List.mem_of_getElem? hxi)
        have hxb := samp_bd hdp hfx
        obtain ⟨v1, v2, v3⟩ := v
        simp only [] at hv1 hv2 hv3 hv4
        obtain ⟨ad2, rfl⟩ := hv4.some_ (by omega)
        have hll : (dataB dp chs i ++ rowB dp (chs.take j) i).length ≤ 24600 := by
          have h1 := data_small (n := i) hdp (chs := chs) (by omega) (by omega)
          have h2 := rowB_length dp (chs.take j) i
          rw [List.length_take] at h2
          have h3 : min j chs.length * wideN dp ≤ 2 * 3 := Nat.mul_le_mul (by omega) hwb.2
          rw [List.length_append]
          omega
        refine x_op rfl (x_val (r_indexAddr Tryd.underlying25 Ty.i41 rfl rfl ⟨by omega, by omega⟩) rfl ?_)
        refine x_op rfl (x_val (r_load1 (v := .slice (some ad2) v2 v3) Ty.z41 rfl (fun w hS => (hS.rd0 hC).cell_ (k := j) (j := 0) hjl (by omega) rfl (slcs_get hv))) rfl ?_)
        refine x_op rfl (x_val (r_assign rfl) rfl ?_)
        refine x_nil ?_
        refine x_seq ?_
        refine x_text (by kernel_rfl) ?_
        refine x_tk rfl (r_move rfl) rfl (fun _ h => h) ?_
        refine x_tk rfl (r_move rfl) rfl (fun _ h => h) ?_
        refine x_tk rfl (r_indexAddr Tryd.underlying41 Ty.i3 rfl rfl ⟨by omega, by omega⟩) rfl (fun _ h => h) ?_
        refine x_tk rfl (r_load1 (v := .int .i64 x) Ty.z3 rfl (fun w hS => (hS.rd0 hv4).cell_ (k := i) (j := 0) (by omega) (by omega) rfl (ints_get hxi))) rfl (fun _ h => h) ?_
        refine x_tk rfl (r_move rfl) rfl (fun _ h => h) ?_
        refine x_tk rfl (r_mul rfl rfl ⟨by omega, by omega⟩) rfl (fun _ h => h) ?_
        refine x_tk rfl (r_fieldAddr Ty.q29_0 rfl) rfl (fun _ h => h) ?_
        refine x_tk rfl (r_fieldAddr Ty.q23_1 rfl) rfl (fun _ h => h) ?_
        refine x_tk rfl (r_own_add (i := 2) Ty.z3 rfl rfl rfl) rfl (fun _ h => h) ?_
        refine x_tk rfl (r_sub rfl rfl ⟨by omega, by omega⟩) rfl (fun _ h => h) ?_
        refine x_tk rfl (r_shl (shM dp) rfl rfl rfl ⟨by omega, by omega⟩ ⟨by omega, by omega⟩) rfl (fun _ h => h) ?_
        refine x_tk rfl (r_assign rfl) rfl (fun _ h => h) ?_
        refine x_tend ?_
        refine x_seq ?_
        refine x_seq ?_
        refine x_region ?_
        refine x_op rfl (x_val (r_move rfl) rfl ?_)
        refine x_op rfl (x_val (r_eql rfl rfl rfl) rfl (x_dec (fun h51 => ?_) (fun h51 => ?_)))
        · refine x_nil ?_
          refine x_true rfl ?_
          refine x_region ?_
          refine x_op rfl (x_val (r_move rfl) rfl ?_)
          refine x_op rfl (x_val (r_add rfl rfl ⟨by omega, by omega⟩) rfl ?_)
          refine x_op rfl (x_val (r_assign rfl) rfl ?_)
          refine x_nil ?_
          refine x_region ?_
          refine x_op rfl (x_val (r_fieldAddr Ty.q48_2 rfl) rfl ?_)
          refine x_op rfl (x_val (r_own_add (i := 0) Ty.z31 rfl rfl rfl) rfl ?_)
          refine x_op rfl (x_val (r_move rfl) rfl ?_)
          refine x_op rfl (x_val (r_move rfl) rfl ?_)
          have hsv : le (x * shM dp + 128) (wideN dp) = sampB dp x := by unfold sampB sampV; rw [if_pos (by omega)]
          refine x_op rfl (s_call Ty.c15 rfl rfl (fun w hw => low_ A2 c2 (dataB dp chs i ++ rowB dp (chs.take j) i) (x * shM dp + 128) (wideN dp) w hA2 (hw.sub_ [1] (by decide)) (by omega) (by omega)) (fun wq v wq1 hw h => ?_))
          obtain ⟨A3, c3, rfl, hA3, hO⟩ := h
          refine ⟨_, hw.swap_ [1] [0, 2] (by decide) hO, ?_⟩
          refine x_nf (L' := [_, bl _ _ #[_, _, _, _, _], bl _ _ #[_, _, _, _, _]]) rfl ?_
          refine x_op rfl (x_val (r_fieldAddr Ty.q48_2 rfl) rfl ?_)
          refine x_op rfl (s_store (i := 1) Ty.z31 rfl rfl rfl rfl rfl rfl ?_)
          refine x_nf (L' := [_, bl _ _ #[_, _, _, _, _], bl _ _ #[_, _, _, _, _]]) rfl ?_
          refine x_nil ?_
          refine x_region ?_
          refine x_op rfl (x_val (r_add rfl rfl ⟨by omega, by omega⟩) rfl ?_)
          refine x_op rfl (x_val (r_move rfl) rfl ?_)
          refine x_nil ?_
          have ee : dataB dp chs i ++ rowB dp (chs.take (j + 1)) i = dataB dp chs i ++ rowB dp (chs.take j) i ++ sampB dp x := by rw [rowB_take hx hxi, List.append_assoc]
          rw [hsv] at hA3
          refine x_again (s := (j, A2, c2)) ((j + 1, A3, c3)) (by repeat (first | exact trivial | refine ⟨rfl, ?_⟩)) (fun _ h => by simp only [ee, ← hsv]; exact h.pick_ [1, 0, 2] (by decide)) ⟨by omega, by simp only [ee]; exact hA3⟩ (by simp only []; omega)
        · refine x_nil ?_
          refine x_false rfl ?_
          refine x_skip ?_
          refine x_region ?_
          refine x_op rfl (x_val (r_fieldAddr Ty.q48_2 rfl) rfl ?_)
          refine x_op rfl (x_val (r_own_add (i := 0) Ty.z31 rfl rfl rfl) rfl ?_)
          refine x_op rfl (x_val (r_move rfl) rfl ?_)
          refine x_op rfl (x_val (r_move rfl) rfl ?_)
          have hsv : le (x * shM dp) (wideN dp) = sampB dp x := by unfold sampB sampV; rw [if_neg (by omega)]
          refine x_op rfl (s_call Ty.c15 rfl rfl (fun w hw => low_ A2 c2 (dataB dp chs i ++ rowB dp (chs.take j) i) (x * shM dp) (wideN dp) w hA2 (hw.sub_ [1] (by decide)) (by omega) (by omega)) (fun wq v wq1 hw h => ?_))
          obtain ⟨A3, c3, rfl, hA3, hO⟩ := h
          refine ⟨_, hw.swap_ [1] [0, 2] (by decide) hO, ?_⟩
          refine x_nf (L' := [_, bl _ _ #[_, _, _, _, _], bl _ _ #[_, _, _, _, _]]) rfl ?_
          refine x_op rfl (x_val (r_fieldAddr Ty.q48_2 rfl) rfl ?_)
          refine x_op rfl (s_store (i := 1) Ty.z31 rfl rfl rfl rfl rfl rfl ?_)
          refine x_nf (L' := [_, bl _ _ #[_, _, _, _, _], bl _ _ #[_, _, _, _, _]]) rfl ?_
          refine x_nil ?_
          refine x_region ?_
          refine x_op rfl (x_val (r_add rfl rfl ⟨by omega, by omega⟩) rfl ?_)
          refine x_op rfl (x_val (r_move rfl) rfl ?_)
          refine x_nil ?_
          have ee : dataB dp chs i ++ rowB dp (chs.take (j + 1)) i = dataB dp chs i ++ rowB dp (chs.take j) i ++ sampB dp x := by rw [rowB_take hx hxi, List.append_assoc]
          rw [hsv] at hA3
          refine x_again (s := (j, A2, c2)) ((j + 1, A3, c3)) (by repeat (first | exact trivial | refine ⟨rfl, ?_⟩)) (fun _ h => by simp only [ee, ← hsv]; exact h.pick_ [1, 0, 2] (by decide)) ⟨by omega, by simp only [ee]; exact hA3⟩ (by simp only []; omega)
      · refine x_nil ?_
        refine x_seq ?_
        refine x_false rfl ?_
        refine x_exit rfl ?_
        refine x_region ?_
        refine x_op rfl (x_val (r_add rfl rfl ⟨by omega, by omega⟩) rfl ?_)
        refine x_op rfl (x_val (r_move rfl) rfl ?_)
        refine x_nil ?_
        have hjv : j = chs.length := by omega
        have ee : dataB dp chs (i + 1) = dataB dp chs i ++ rowB dp (chs.take j) i := by rw [dataB_succ, hjv, List.take_length]
        refine x_again (s := (i, A1, c1)) ((i + 1, A2, c2)) (by repeat (first | exact trivial | refine ⟨rfl, ?_⟩)) (fun _ h => by simp only [ee]; exact h.pick_ [0, 1, 2] (by decide)) ⟨by omega, by simp only [ee]; exact hA2⟩ (by simp only []; omega)
    · refine x_nil ?_
      refine x_seq ?_
      refine x_false rfl ?_
      refine x_exit rfl ?_
      refine x_seq ?_
      have hin : i = chN chs := by omega
      subst hin
      have hds := data_small (n := chN chs) hdp (chs := chs) (by omega) (by omega)
      refine x_region ?_
      refine x_op rfl (x_val (r_ownN (i := 0) Ty.z48 rfl rfl rfl) rfl ?_)
      refine x_op rfl (s_call Ty.c16 rfl rfl (fun w hw => file_ ch dp rt T A1 ct 0 c1 ts (dataB dp chs (chN chs)) w (by omega) hdp (by omega) (blk_bd (by omega) hdp) (rblk_bd (by omega) hdp (by omega)) htN (fun t ht => isTagF_small (List.all_eq_true.1 hok.tags t ht)) (by omega) (hw.rd0 hT) (hw.rd_sl (i := 1) rfl hA1)) (fun wq v wq1 hw h => ?_))
      obtain ⟨R1, r1, rfl, hR1, hO⟩ := h
      refine ⟨_, hw.call0 hO, ?_⟩
      refine x_nf (L' := [_, bl _ _ #[_, _, _, _, _], _, bl _ _ #[_, _, _, _, _]]) rfl ?_
      refine x_op rfl (x_val (r_assign rfl) rfl ?_)
      refine x_op rfl (x_val (r_assign rfl) rfl ?_)
      refine x_nil ?_
      refine x_ret ?_
      -- path FF
      exact x_rets (rs := []) (vs := []) rfl ⟨rfl, rfl, trivial⟩ fun w1 hO => ⟨_, rfl, .inr ⟨hok, R1, r1, rfl, hR1, hO.pick_ [0] (by decide)⟩⟩
end Go.Proofs.YtlpoepmipbegaaaDoor.Wv
