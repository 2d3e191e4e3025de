/- The law's helpers: Same, score, tune. -/
import Derived.Test.YtlpoepmipbegaaaDoorV18
set_option linter.unusedVariables false
set_option linter.unusedSimpArgs false
namespace Go.Proofs.YtlpoepmipbegaaaDoor.Wv
open Go Go.RowKit Go.Proofs.YtlpoepmipbegaaaDoor.En
set_option maxRecDepth 20000 in
theorem Ints_ (A B : Option Addr) (n c c' : Nat) (xs : List Int) (w : World) (hn : n = xs.length) (ha : Rd w A n 1 (ints xs)) (hb : Rd w B n 1 (ints xs)) :
    Calls Tryd.prog 23 #[.slice A n c, .slice B n c'] w fun en w1 => ∃ r, en = .returned r ∧ (r = .bool true ∧ Own w [] [] w1) := by
  have hnm := ha.2.1
  simp only [maxLen] at hnm
  refine fn_enter (args := [_, _]) (F := []) Tryd.func23 rfl rfl rfl ?_
  refine x_seq ?_
  refine x_region ?_
  refine x_op rfl (x_val (r_assign rfl) rfl ?_)
  refine x_nil ?_
  refine x_seq ?_
  refine x_seq ?_
  refine x_region ?_
  refine x_op rfl (x_val (r_move rfl) rfl ?_)
  refine x_op rfl (x_val (r_len_slice Tryd.underlying41 rfl) rfl ?_)
  refine x_op rfl (x_val (r_move rfl) rfl ?_)
  refine x_op rfl (x_val (r_len_slice Tryd.underlying41 rfl) rfl ?_)
  refine x_op rfl (x_val (r_neq (r := false) rfl rfl (by simp)) rfl ?_)
  refine x_nil ?_
  refine x_false rfl ?_
  refine x_skip ?_
  refine x_seq ?_
  refine x_seq ?_
  refine x_region ?_
  refine x_op rfl (x_val (r_assign rfl) rfl ?_)
  refine x_nil ?_
  refine x_block ?_
  refine x_loopP (σ := Nat) [0, 1] [] (fun s => [(5, .int .i64 s)]) (fun s => []) (fun s => s ≤ n) (fun s => n - s) (0) (by repeat (first | exact trivial | refine ⟨rfl, ?_⟩)) (fun _ h => h.pick_ [] (by decide)) (Nat.zero_le _) ?_
  rintro s hi
  refine x_nfe (e' := [_, _, _]) (L' := []) rfl rfl ?_
  refine x_seq ?_
  refine x_seq ?_
  refine x_region ?_
  refine x_op rfl (x_val (r_move rfl) rfl ?_)
  refine x_op rfl (x_val (r_move rfl) rfl ?_)
  refine x_op rfl (x_val (r_len_slice Tryd.underlying41 rfl) rfl ?_)
  refine x_op rfl (x_val (r_lss rfl rfl rfl) rfl (x_dec (fun h14 => ?_) (fun h14 => ?_)))
  · refine x_nil ?_
    refine x_true rfl ?_
    refine x_skip ?_
    refine x_seq ?_
    refine x_block ?_
    refine x_seq ?_
    refine x_text (by kernel_rfl) ?_
    have hlt : s < n := by omega
    have hx : xs[s]? = some (xs[s]'(by omega)) := List.getElem?_eq_getElem _
    generalize xs[s]'(by omega) = x at hx
    obtain ⟨ad, rfl⟩ := ha.some_ (by omega)
    obtain ⟨ad2, rfl⟩ := hb.some_ (by omega)
    refine x_tk rfl (r_move rfl) rfl (fun _ h => h) ?_
    refine x_tk rfl (r_move rfl) rfl (fun _ h => h) ?_
    refine x_tk rfl (r_indexAddr Tryd.underlying41 Ty.i3 rfl rfl ⟨by omega, by omega⟩) rfl (fun _ h => h) ?_
    refine x_tk rfl (r_load1 (v := .int .i64 x) Ty.z3 rfl (fun w hS => (hS.rd0 ha).cell_ (k := s) (j := 0) (by omega) (by omega) rfl (ints_get hx))) rfl (fun _ h => h) ?_
    refine x_tk rfl (r_move rfl) rfl (fun _ h => h) ?_
    refine x_tk rfl (r_move rfl) rfl (fun _ h => h) ?_
    refine x_tk rfl (r_indexAddr Tryd.underlying41 Ty.i3 rfl rfl ⟨by omega, by omega⟩) rfl (fun _ h => h) ?_
    refine x_tk rfl (r_load1 (v := .int .i64 x) Ty.z3 rfl (fun w hS => (hS.rd0 hb).cell_ (k := s) (j := 0) (by omega) (by omega) rfl (ints_get hx))) rfl (fun _ h => h) ?_
    refine x_tk rfl (r_neq (r := false) rfl rfl (by simp)) rfl (fun _ h => h) ?_
    refine x_tend ?_
    refine x_false rfl ?_
    refine x_skip ?_
    refine x_region ?_
    refine x_op rfl (x_val (r_move rfl) rfl ?_)
    refine x_op rfl (x_val (r_add rfl rfl ⟨by omega, by omega⟩) rfl ?_)
    refine x_op rfl (x_val (r_assign rfl) rfl ?_)
    refine x_nil ?_
    refine x_again (s + 1) (by repeat (first | exact trivial | refine ⟨rfl, ?_⟩)) (fun _ h => h.pick_ [] (by decide)) (by omega) (by omega)
  · refine x_nil ?_
    refine x_false rfl ?_
    refine x_exit rfl ?_
    refine x_seq ?_
    refine x_region ?_
    refine x_op rfl (x_val (r_assign rfl) rfl ?_)
    refine x_nil ?_
    refine x_ret ?_
    -- path F
    exact x_ret1 rfl rfl fun w1 hO => ⟨_, rfl, rfl, hO.none_⟩
set_option maxRecDepth 20000 in
theorem Same10_ (a : Int) (C D : Option Addr) (n c d : Nat) (vs us : List Sv) (chs : List (List Int)) (w : World) (hv : n = vs.length) (hu : n = us.length) (hC : Rd w C n 1 (slcs vs)) (hD : Rd w D n 1 (slcs us)) (h1 : ChOk w vs chs) (h2 : ChOk w us chs) :
    Calls Tryd.prog 12 #[.agg #[.int .i64 a, .slice C n c], .agg #[.int .i64 a, .slice D n d]] w fun en w1 => ∃ r, en = .returned r ∧ (r = .bool true ∧ Own w [] [] w1) := by
  have hnm := hC.2.1
  simp only [maxLen] at hnm
  have hl1 := h1.1
  refine fn_enter (args := [_, _]) (F := []) Tryd.func12 rfl rfl rfl ?_
  refine x_seq ?_
  refine x_region ?_
  refine x_op rfl (s_box rfl rfl fun b2 hb2 => ?_)
  refine x_op rfl (s_box rfl rfl fun b3 hb3 => ?_)
  refine x_op rfl (x_val (r_assign rfl) rfl ?_)
  refine x_nil ?_
  refine x_seq ?_
  refine x_seq ?_
  refine x_region ?_
  refine x_op rfl (x_val (r_fieldAddr Ty.q44_0 rfl) rfl ?_)
  refine x_op rfl (x_val (r_own_add (i := 1) Ty.z3 rfl rfl rfl) rfl ?_)
  refine x_op rfl (x_val (r_fieldAddr Ty.q44_0 rfl) rfl ?_)
  refine x_op rfl (x_val (r_own_add (i := 0) Ty.z3 rfl rfl rfl) rfl ?_)
  refine x_op rfl (x_val (r_neq (r := false) rfl rfl (by simp)) rfl ?_)
  refine x_op rfl (x_val (r_move rfl) rfl ?_)
  refine x_op rfl (x_val (r_fieldAddr Ty.q44_1 rfl) rfl ?_)
  refine x_op rfl (x_val (r_own_add (i := 1) Ty.z25 rfl rfl rfl) rfl ?_)
  refine x_op rfl (x_val (r_len_slice Tryd.underlying25 rfl) rfl ?_)
  refine x_op rfl (x_val (r_fieldAddr Ty.q44_1 rfl) rfl ?_)
  refine x_op rfl (x_val (r_own_add (i := 0) Ty.z25 rfl rfl rfl) rfl ?_)
  refine x_op rfl (x_val (r_len_slice Tryd.underlying25 rfl) rfl ?_)
  refine x_op rfl (x_val (r_neq (r := false) rfl rfl (by simp)) rfl ?_)
  refine x_op rfl (x_val (r_pick_f rfl rfl) rfl ?_)
  refine x_nil ?_
  refine x_false rfl ?_
  refine x_skip ?_
  refine x_seq ?_
  refine x_seq ?_
  refine x_region ?_
  refine x_op rfl (x_val (r_assign rfl) rfl ?_)
  refine x_nil ?_
  refine x_block ?_
  refine x_loopP (σ := Nat) [2, 3] [0, 1] (fun s => [(5, .int .i64 s)]) (fun s => []) (fun s => s ≤ n) (fun s => n - s) (0) (by repeat (first | exact trivial | refine ⟨rfl, ?_⟩)) (fun _ h => h.pick_ [0, 1] (by decide)) (Nat.zero_le _) ?_
  rintro s hi
  refine x_nfe (e' := [_, _, _]) (L' := [bl _ _ #[_, _], bl _ _ #[_, _]]) rfl rfl ?_
  refine x_seq ?_
  refine x_seq ?_
  refine x_region ?_
  refine x_op rfl (x_val (r_move rfl) rfl ?_)
  refine x_op rfl (x_val (r_fieldAddr Ty.q44_1 rfl) rfl ?_)
  refine x_op rfl (x_val (r_own_add (i := 1) Ty.z25 rfl rfl rfl) rfl ?_)
  refine x_op rfl (x_val (r_len_slice Tryd.underlying25 rfl) rfl ?_)
  refine x_op rfl (x_val (r_lss rfl rfl rfl) rfl (x_dec (fun h24 => ?_) (fun h24 => ?_)))
  · refine x_nil ?_
    refine x_true rfl ?_
    refine x_skip ?_
    refine x_seq ?_
    refine x_block ?_
    refine x_seq ?_
    refine x_textP [0, 1] (by kernel_rfl) (by decide) ?_
    have hlt : s < n := by omega
    have hx : chs[s]? = some (chs[s]'(by omega)) := List.getElem?_eq_getElem _
    generalize chs[s]'(by omega) = xs at hx
    have hv1 : vs[s]? = some (vs[s]'(by omega)) := List.getElem?_eq_getElem _
    generalize vs[s]'(by omega) = v at hv1
    have hu1 : us[s]? = some (us[s]'(by omega)) := List.getElem?_eq_getElem _
    generalize us[s]'(by omega) = u at hu1
    obtain ⟨p1, p2, p3, p4⟩ := h1.2 s v xs hv1 hx
    obtain ⟨q1, q2, q3, q4⟩ := h2.2 s u xs hu1 hx
    have huv : u.2.1 = v.2.1 := by omega
    rw [huv] at q4
    obtain ⟨ad, rfl⟩ := hC.some_ (by omega)
    obtain ⟨ad2, rfl⟩ := hD.some_ (by omega)
    refine x_tk rfl (r_fieldAddr Ty.q44_1 rfl) rfl (fun _ h => h.pick_ [0, 1] (by decide)) ?_
    refine x_tk rfl (r_own_add (i := 1) Ty.z25 rfl rfl rfl) rfl (fun _ h => h.pick_ [0, 1] (by decide)) ?_
    refine x_tk rfl (r_move rfl) rfl (fun _ h => h.pick_ [0, 1] (by decide)) ?_
    refine x_tk rfl (r_indexAddr Tryd.underlying25 Ty.i41 rfl rfl ⟨by omega, by omega⟩) rfl (fun _ h => h.pick_ [0, 1] (by decide)) ?_
    refine x_tk rfl (r_load1 (v := .slice v.1 v.2.1 v.2.2) Ty.z41 rfl (fun w hS => (hS.rd0 hC).cell_ (k := s) (j := 0) (by omega) (by omega) rfl (slcs_get hv1))) rfl (fun _ h => h.pick_ [0, 1] (by decide)) ?_
    refine x_tk rfl (r_fieldAddr Ty.q44_1 rfl) rfl (fun _ h => h.pick_ [0, 1] (by decide)) ?_
    refine x_tk rfl (r_own_add (i := 0) Ty.z25 rfl rfl rfl) rfl (fun _ h => h.pick_ [0, 1] (by decide)) ?_
    refine x_tk rfl (r_move rfl) rfl (fun _ h => h.pick_ [0, 1] (by decide)) ?_
    refine x_tk rfl (r_indexAddr Tryd.underlying25 Ty.i41 rfl rfl ⟨by omega, by omega⟩) rfl (fun _ h => h.pick_ [0, 1] (by decide)) ?_
    refine x_tk rfl (r_load1 (v := .slice u.1 v.2.1 u.2.2) Ty.z41 rfl (fun w hS => by rw [← huv]; exact (hS.rd0 hD).cell_ (k := s) (j := 0) (by omega) (by omega) rfl (slcs_get hu1))) rfl (fun _ h => h.pick_ [0, 1] (by decide)) ?_
    refine x_tany ?_
    refine x_all [10] (by kernel_rfl) ⟨?_, trivial⟩
    refine x_do rfl rfl (s_call Ty.c23 rfl rfl (fun w hw => Ints_ v.1 u.1 v.2.1 v.2.2 u.2.2 xs w p1 (hw.rd0 p4) (hw.rd0 q4)) (fun wq v wq1 hw h => ?_))
    obtain ⟨rfl, hO⟩ := h
    refine ⟨_, hw.call0 hO, x_and (fun _ h => h.pick_ [0, 1] (by decide)) ?_⟩
    refine x_nf (L' := [bl _ _ #[_, _], bl _ _ #[_, _]]) rfl ?_
    refine x_take 11 rfl (by kernel_rfl) rfl (r_not rfl rfl) rfl (fun _ h => h.pick_ [0, 1] (by decide)) ?_
    refine x_done (by kernel_rfl) ?_
    refine x_false rfl ?_
    refine x_skip ?_
    refine x_region ?_
    refine x_op rfl (x_val (r_move rfl) rfl ?_)
    refine x_op rfl (x_val (r_add rfl rfl ⟨by omega, by omega⟩) rfl ?_)
    refine x_op rfl (x_val (r_assign rfl) rfl ?_)
    refine x_nil ?_
    refine x_again (s + 1) (by repeat (first | exact trivial | refine ⟨rfl, ?_⟩)) (fun _ h => h.pick_ [0, 1] (by decide)) (by omega) (by omega)
  · refine x_nil ?_
    refine x_false rfl ?_
    refine x_exit rfl ?_
    refine x_seq ?_
    refine x_region ?_
    refine x_op rfl (x_val (r_assign rfl) rfl ?_)
    refine x_nil ?_
    refine x_ret ?_
    -- path F
    exact x_ret1 rfl rfl fun w1 hO => ⟨_, rfl, rfl, hO.none_⟩
set_option maxHeartbeats 1000000 in
set_option maxRecDepth 20000 in
theorem Same11_ (ch dp rt : Int) (T U C D : Option Addr) (m n ct cu c d : Nat) (ts : List ByteArray) (vs us : List Sv) (chs : List (List Int)) (w : World) (hm : m = ts.length) (hv : n = vs.length) (hu : n = us.length) (hT : Rd w T m 1 (strs ts)) (hU : Rd w U m 1 (strs ts)) (hC : Rd w C n 1 (slcs vs)) (hD : Rd w D n 1 (slcs us)) (h1 : ChOk w vs chs) (h2 : ChOk w us chs) :
    Calls Tryd.prog 7 #[.agg #[.int .i64 ch, .int .i64 dp, .int .i64 rt, .slice T m ct, .slice C n c], .agg #[.int .i64 ch, .int .i64 dp, .int .i64 rt, .slice U m cu, .slice D n d]] w fun en w1 => ∃ r, en = .returned r ∧ (r = .bool true ∧ Own w [] [] w1) := by
  have hmm := hT.2.1
  simp only [maxLen] at hmm
  refine fn_enter (args := [_, _]) (F := []) Tryd.func7 rfl rfl rfl ?_
  refine x_seq ?_
  refine x_region ?_
  refine x_op rfl (s_box rfl rfl fun b2 hb2 => ?_)
  refine x_op rfl (s_box rfl rfl fun b3 hb3 => ?_)
  refine x_op rfl (x_val (r_assign rfl) rfl ?_)
  refine x_nil ?_
  refine x_seq ?_
  refine x_seq ?_
  refine x_region ?_
  refine x_op rfl (x_val (r_fieldAddr Ty.q27_0 rfl) rfl ?_)
  refine x_op rfl (x_val (r_own_at (i := 1) Ty.z23 rfl rfl rfl rfl) rfl ?_)
  refine x_op rfl (x_val (r_fieldAddr Ty.q27_0 rfl) rfl ?_)
  refine x_op rfl (x_val (r_own_at (i := 0) Ty.z23 rfl rfl rfl rfl) rfl ?_)
  refine x_op rfl (x_val (r_neq_shape rfl rfl) rfl ?_)
  refine x_op rfl (x_val (r_move rfl) rfl ?_)
  refine x_op rfl (x_val (r_fieldAddr Ty.q27_1 rfl) rfl ?_)
  refine x_op rfl (x_val (r_own_add (i := 1) Ty.z24 rfl rfl rfl) rfl ?_)
  refine x_op rfl (x_val (r_len_slice Tryd.underlying24 rfl) rfl ?_)
  refine x_op rfl (x_val (r_fieldAddr Ty.q27_1 rfl) rfl ?_)
  refine x_op rfl (x_val (r_own_add (i := 0) Ty.z24 rfl rfl rfl) rfl ?_)
  refine x_op rfl (x_val (r_len_slice Tryd.underlying24 rfl) rfl ?_)
  refine x_op rfl (x_val (r_neq (r := false) rfl rfl (by simp)) rfl ?_)
  refine x_op rfl (x_val (r_pick_f rfl rfl) rfl ?_)
  refine x_op rfl (x_val (r_move rfl) rfl ?_)
  refine x_op rfl (x_val (r_fieldAddr Ty.q27_2 rfl) rfl ?_)
  refine x_op rfl (x_val (r_own_add (i := 1) Ty.z25 rfl rfl rfl) rfl ?_)
  refine x_op rfl (x_val (r_build Ty.i44 Ty.p44 rfl rfl) rfl ?_)
  refine x_op rfl (x_val (r_fieldAddr Ty.q27_2 rfl) rfl ?_)
  refine x_op rfl (x_val (r_own_add (i := 0) Ty.z25 rfl rfl rfl) rfl ?_)
  refine x_op rfl (x_val (r_build Ty.i44 Ty.p44 rfl rfl) rfl ?_)
  refine x_op rfl (s_call Ty.c12 rfl rfl (fun w hw => Same10_ 0 C D n c d vs us chs w hv hu (hw.rd0 hC) (hw.rd0 hD) (h1.keep hw) (h2.keep hw)) (fun wq v wq1 hw h => ?_))
  obtain ⟨rfl, hO⟩ := h
  refine ⟨_, hw.call0 hO, ?_⟩
  refine x_nf (L' := [bl _ _ #[_, _, _, _, _], bl _ _ #[_, _, _, _, _]]) rfl ?_
  refine x_op rfl (x_val (r_not rfl rfl) rfl ?_)
  refine x_op rfl (x_val (r_pick_f rfl rfl) rfl ?_)
  refine x_nil ?_
  refine x_false rfl ?_
  refine x_skip ?_
  refine x_seq ?_
  refine x_seq ?_
  refine x_region ?_
  refine x_op rfl (x_val (r_assign rfl) rfl ?_)
  refine x_nil ?_
  refine x_block ?_
  refine x_loopP (σ := Nat) [2, 3] [0, 1] (fun s => [(5, .int .i64 s)]) (fun s => []) (fun s => s ≤ m) (fun s => m - s) (0) (by repeat (first | exact trivial | refine ⟨rfl, ?_⟩)) (fun _ h => h.pick_ [0, 1] (by decide)) (Nat.zero_le _) ?_
  rintro s hi
  refine x_nfe (e' := [_, _, _]) (L' := [bl _ _ #[_, _, _, _, _], bl _ _ #[_, _, _, _, _]]) rfl rfl ?_
  refine x_seq ?_
  refine x_seq ?_
  refine x_region ?_
  refine x_op rfl (x_val (r_move rfl) rfl ?_)
  refine x_op rfl (x_val (r_fieldAddr Ty.q27_1 rfl) rfl ?_)
  refine x_op rfl (x_val (r_own_add (i := 1) Ty.z24 rfl rfl rfl) rfl ?_)
  refine x_op rfl (x_val (r_len_slice Tryd.underlying24 rfl) rfl ?_)
  refine x_op rfl (x_val (r_lss rfl rfl rfl) rfl (x_dec (fun h34 => ?_) (fun h34 => ?_)))
  · refine x_nil ?_
    refine x_true rfl ?_
    refine x_skip ?_
    refine x_seq ?_
    refine x_block ?_
    refine x_seq ?_
    refine x_text (by kernel_rfl) ?_
    have hlt : s < m := by omega
    have hx : ts[s]? = some (ts[s]'(by omega)) := List.getElem?_eq_getElem _
    generalize ts[s]'(by omega) = t at hx
    obtain ⟨ad, rfl⟩ := hT.some_ (by omega)
    obtain ⟨ad2, rfl⟩ := hU.some_ (by omega)
    refine x_tk rfl (r_fieldAddr Ty.q27_1 rfl) rfl (fun _ h => h) ?_
    refine x_tk rfl (r_own_add (i := 1) Ty.z24 rfl rfl rfl) rfl (fun _ h => h) ?_
    refine x_tk rfl (r_move rfl) rfl (fun _ h => h) ?_
    refine x_tk rfl (r_indexAddr Tryd.underlying24 Ty.i9 rfl rfl ⟨by omega, by omega⟩) rfl (fun _ h => h) ?_
    refine x_tk rfl (r_load1 (v := .string t) Ty.z9 rfl (fun w hS => (hS.rd0 hT).cell_ (k := s) (j := 0) (by omega) (by omega) rfl (strs_get hx))) rfl (fun _ h => h) ?_
    refine x_tk rfl (r_fieldAddr Ty.q27_1 rfl) rfl (fun _ h => h) ?_
    refine x_tk rfl (r_own_add (i := 0) Ty.z24 rfl rfl rfl) rfl (fun _ h => h) ?_
    refine x_tk rfl (r_move rfl) rfl (fun _ h => h) ?_
    refine x_tk rfl (r_indexAddr Tryd.underlying24 Ty.i9 rfl rfl ⟨by omega, by omega⟩) rfl (fun _ h => h) ?_
    refine x_tk rfl (r_load1 (v := .string t) Ty.z9 rfl (fun w hS => (hS.rd0 hU).cell_ (k := s) (j := 0) (by omega) (by omega) rfl (strs_get hx))) rfl (fun _ h => h) ?_
    refine x_tk rfl (r_neq_string (r := false) rfl rfl (by simp)) rfl (fun _ h => h) ?_
    refine x_tend ?_
    refine x_false rfl ?_
    refine x_skip ?_
    refine x_region ?_
    refine x_op rfl (x_val (r_move rfl) rfl ?_)
    refine x_op rfl (x_val (r_add rfl rfl ⟨by omega, by omega⟩) rfl ?_)
    refine x_op rfl (x_val (r_assign rfl) rfl ?_)
    refine x_nil ?_
    refine x_again (s + 1) (by repeat (first | exact trivial | refine ⟨rfl, ?_⟩)) (fun _ h => h.pick_ [0, 1] (by decide)) (by omega) (by omega)
  · refine x_nil ?_
    refine x_false rfl ?_
    refine x_exit rfl ?_
    refine x_seq ?_
    refine x_region ?_
    refine x_op rfl (x_val (r_assign rfl) rfl ?_)
    refine x_nil ?_
    refine x_ret ?_
    -- path F
    exact x_ret1 rfl rfl fun w1 hO => ⟨_, rfl, rfl, hO.none_⟩
set_option maxRecDepth 20000 in
theorem score_ (ch dp rt : Int) (T C : Option Addr) (m n ct c : Nat) (w : World) :
    Calls Tryd.prog 8 #[.agg #[.int .i64 ch, .int .i64 dp, .int .i64 rt, .slice T m ct, .slice C n c]] w fun en w1 => ∃ r, en = .returned r ∧ (r = .agg #[.int .i64 ch, .int .i64 dp, .int .i64 rt, .slice T m ct, .slice C n c] ∧ Own w [] [] w1) := by
  refine fn_enter (args := [_]) (F := []) Tryd.func8 rfl rfl rfl ?_
  refine x_seq ?_
  refine x_region ?_
  refine x_op rfl (s_box rfl rfl fun b1 hb1 => ?_)
  refine x_op rfl (s_alloc Ty.i27 rfl fun b2 hb2 => ?_)
  refine x_nil ?_
  refine x_seq ?_
  refine x_region ?_
  refine x_op rfl (x_val (r_fieldAddr Ty.q29_0 rfl) rfl ?_)
  refine x_op rfl (x_val (r_own_at (i := 1) Ty.z23 rfl rfl rfl rfl) rfl ?_)
  refine x_op rfl (x_val (r_fieldAddr Ty.q29_1 rfl) rfl ?_)
  refine x_op rfl (x_val (r_own_add (i := 1) Ty.z24 rfl rfl rfl) rfl ?_)
  refine x_op rfl (x_val (r_fieldAddr Ty.q29_2 rfl) rfl ?_)
  refine x_op rfl (x_val (r_own_add (i := 1) Ty.z25 rfl rfl rfl) rfl ?_)
  refine x_op rfl (x_val (r_build Ty.i27 Ty.p27 rfl rfl) rfl ?_)
  refine x_op rfl (s_store (i := 0) Ty.z27 rfl rfl rfl rfl rfl rfl ?_)
  refine x_nf (L' := [bl _ _ #[_, _, _, _, _], bl _ _ #[_, _, _, _, _]]) rfl ?_
  refine x_nil ?_
  refine x_ret ?_
  -- path 
  exact x_ret1 rfl (res_own (i := 0) (cs := [.int .i64 ch, .int .i64 dp, .int .i64 rt, .slice T m ct, .slice C n c]) rfl rfl Ty.z27 rfl) fun w1 hO => ⟨_, rfl, rfl, hO.none_⟩
end Go.Proofs.YtlpoepmipbegaaaDoor.Wv
