/- The shape's check, a track's length; bytes.Equal, bytes.HasPrefix. -/
import Derived.Test.YtlpoepmipbegaaaDoorV4
set_option linter.unusedVariables false
set_option linter.unusedSimpArgs false
namespace Go.Proofs.YtlpoepmipbegaaaDoor.Wv
open Go Go.RowKit Go.Proofs.YtlpoepmipbegaaaDoor.En
def fcheck (ch dp rt : Int) : Int := if 1 ≤ ch ∧ ch ≤ 2 ∧ 4 ≤ dp ∧ dp ≤ 24 ∧ 1 ≤ rt ∧ rt ≤ 655350 then 0 else 2
set_option maxRecDepth 20000 in
theorem FCheck_ (ch dp rt : Int) (w : World) :
    Calls Tryd.prog 24 #[.agg #[.int .i64 ch, .int .i64 dp, .int .i64 rt]] w fun en w1 => ∃ r, en = .returned r ∧ (r = .int .i64 (fcheck ch dp rt) ∧ Own w [] [] w1) := by
  refine fn_enter (args := [_]) (F := []) Tryd.func24 rfl rfl rfl ?_
  refine x_seq ?_
  refine x_region ?_
  refine x_op rfl (s_box rfl rfl fun b1 hb1 => ?_)
  refine x_op rfl (x_val (r_assign rfl) rfl ?_)
  refine x_nil ?_
  refine x_seq ?_
  refine x_seq ?_
  refine x_region ?_
  refine x_op rfl (x_val (r_fieldAddr Ty.q23_0 rfl) rfl ?_)
  refine x_op rfl (x_val (r_own_add (i := 0) Ty.z3 rfl rfl rfl) rfl ?_)
  refine x_op rfl (x_val (r_lss rfl rfl rfl) rfl (x_dec (fun h5 => ?_) (fun h5 => ?_)))
  · refine x_op rfl (x_val (r_move rfl) rfl ?_)
    refine x_off rfl rfl ?_
    refine x_off rfl rfl ?_
    refine x_off rfl rfl ?_
    refine x_op rfl (x_val (r_pick_t rfl rfl) rfl ?_)
    refine x_op rfl (x_val (r_move rfl) rfl ?_)
    refine x_off rfl rfl ?_
    refine x_off rfl rfl ?_
    refine x_off rfl rfl ?_
    refine x_op rfl (x_val (r_pick_t rfl rfl) rfl ?_)
    refine x_op rfl (x_val (r_move rfl) rfl ?_)
    refine x_off rfl rfl ?_
    refine x_off rfl rfl ?_
    refine x_off rfl rfl ?_
    refine x_op rfl (x_val (r_pick_t rfl rfl) rfl ?_)
    refine x_op rfl (x_val (r_move rfl) rfl ?_)
    refine x_off rfl rfl ?_
    refine x_off rfl rfl ?_
    refine x_off rfl rfl ?_
    refine x_op rfl (x_val (r_pick_t rfl rfl) rfl ?_)
    refine x_op rfl (x_val (r_move rfl) rfl ?_)
    refine x_off rfl rfl ?_
    refine x_off rfl rfl ?_
    refine x_off rfl rfl ?_
    refine x_op rfl (x_val (r_pick_t rfl rfl) rfl ?_)
    refine x_nil ?_
    refine x_true rfl ?_
    refine x_seq ?_
    refine x_region ?_
    refine x_op rfl (x_val (r_assign rfl) rfl ?_)
    refine x_nil ?_
    refine x_ret ?_
    -- path T
    exact x_ret1 rfl rfl fun w1 hO => ⟨_, rfl, by unfold fcheck; first | rw [if_pos (by omega)] | rw [if_neg (by omega)], hO.none_⟩
  · refine x_op rfl (x_val (r_move rfl) rfl ?_)
    refine x_op rfl (x_val (r_fieldAddr Ty.q23_0 rfl) rfl ?_)
    refine x_op rfl (x_val (r_own_add (i := 0) Ty.z3 rfl rfl rfl) rfl ?_)
    refine x_op rfl (x_val (r_gtr rfl rfl rfl) rfl (x_dec (fun h9 => ?_) (fun h9 => ?_)))
    · refine x_op rfl (x_val (r_pick_f rfl rfl) rfl ?_)
      refine x_op rfl (x_val (r_move rfl) rfl ?_)
      refine x_off rfl rfl ?_
      refine x_off rfl rfl ?_
      refine x_off rfl rfl ?_
      refine x_op rfl (x_val (r_pick_t rfl rfl) rfl ?_)
      refine x_op rfl (x_val (r_move rfl) rfl ?_)
      refine x_off rfl rfl ?_
      refine x_off rfl rfl ?_
      refine x_off rfl rfl ?_
      refine x_op rfl (x_val (r_pick_t rfl rfl) rfl ?_)
      refine x_op rfl (x_val (r_move rfl) rfl ?_)
      refine x_off rfl rfl ?_
      refine x_off rfl rfl ?_
      refine x_off rfl rfl ?_
      refine x_op rfl (x_val (r_pick_t rfl rfl) rfl ?_)
      refine x_op rfl (x_val (r_move rfl) rfl ?_)
      refine x_off rfl rfl ?_
      refine x_off rfl rfl ?_
      refine x_off rfl rfl ?_
      refine x_op rfl (x_val (r_pick_t rfl rfl) rfl ?_)
      refine x_nil ?_
      refine x_true rfl ?_
      refine x_seq ?_
      refine x_region ?_
      refine x_op rfl (x_val (r_assign rfl) rfl ?_)
      refine x_nil ?_
      refine x_ret ?_
      -- path FT
      exact x_ret1 rfl rfl fun w1 hO => ⟨_, rfl, by unfold fcheck; first | rw [if_pos (by omega)] | rw [if_neg (by omega)], hO.none_⟩
    · refine x_op rfl (x_val (r_pick_f rfl rfl) rfl ?_)
      refine x_op rfl (x_val (r_move rfl) rfl ?_)
      refine x_op rfl (x_val (r_fieldAddr Ty.q23_1 rfl) rfl ?_)
      refine x_op rfl (x_val (r_own_add (i := 0) Ty.z3 rfl rfl rfl) rfl ?_)
      refine x_op rfl (x_val (r_lss rfl rfl rfl) rfl (x_dec (fun h14 => ?_) (fun h14 => ?_)))
      · refine x_op rfl (x_val (r_pick_f rfl rfl) rfl ?_)
        refine x_op rfl (x_val (r_move rfl) rfl ?_)
        refine x_off rfl rfl ?_
        refine x_off rfl rfl ?_
        refine x_off rfl rfl ?_
        refine x_op rfl (x_val (r_pick_t rfl rfl) rfl ?_)
        refine x_op rfl (x_val (r_move rfl) rfl ?_)
        refine x_off rfl rfl ?_
        refine x_off rfl rfl ?_
        refine x_off rfl rfl ?_
        refine x_op rfl (x_val (r_pick_t rfl rfl) rfl ?_)
        refine x_op rfl (x_val (r_move rfl) rfl ?_)
        refine x_off rfl rfl ?_
        refine x_off rfl rfl ?_
        refine x_off rfl rfl ?_
        refine x_op rfl (x_val (r_pick_t rfl rfl) rfl ?_)
        refine x_nil ?_
        refine x_true rfl ?_
        refine x_seq ?_
        refine x_region ?_
        refine x_op rfl (x_val (r_assign rfl) rfl ?_)
        refine x_nil ?_
        refine x_ret ?_
        -- path FFT
        exact x_ret1 rfl rfl fun w1 hO => ⟨_, rfl, by unfold fcheck; first | rw [if_pos (by omega)] | rw [if_neg (by omega)], hO.none_⟩
      · refine x_op rfl (x_val (r_pick_f rfl rfl) rfl ?_)
        refine x_op rfl (x_val (r_move rfl) rfl ?_)
        refine x_op rfl (x_val (r_fieldAddr Ty.q23_1 rfl) rfl ?_)
        refine x_op rfl (x_val (r_own_add (i := 0) Ty.z3 rfl rfl rfl) rfl ?_)
        refine x_op rfl (x_val (r_gtr rfl rfl rfl) rfl (x_dec (fun h19 => ?_) (fun h19 => ?_)))
        · refine x_op rfl (x_val (r_pick_f rfl rfl) rfl ?_)
          refine x_op rfl (x_val (r_move rfl) rfl ?_)
          refine x_off rfl rfl ?_
          refine x_off rfl rfl ?_
          refine x_off rfl rfl ?_
          refine x_op rfl (x_val (r_pick_t rfl rfl) rfl ?_)
          refine x_op rfl (x_val (r_move rfl) rfl ?_)
          refine x_off rfl rfl ?_
          refine x_off rfl rfl ?_
          refine x_off rfl rfl ?_
          refine x_op rfl (x_val (r_pick_t rfl rfl) rfl ?_)
          refine x_nil ?_
          refine x_true rfl ?_
          refine x_seq ?_
          refine x_region ?_
          refine x_op rfl (x_val (r_assign rfl) rfl ?_)
          refine x_nil ?_
          refine x_ret ?_
          -- path FFFT
          exact x_ret1 rfl rfl fun w1 hO => ⟨_, rfl, by unfold fcheck; first | rw [if_pos (by omega)] | rw [if_neg (by omega)], hO.none_⟩
        · refine x_op rfl (x_val (r_pick_f rfl rfl) rfl ?_)
          refine x_op rfl (x_val (r_move rfl) rfl ?_)
          refine x_op rfl (x_val (r_fieldAddr Ty.q23_2 rfl) rfl ?_)
          refine x_op rfl (x_val (r_own_add (i := 0) Ty.z3 rfl rfl rfl) rfl ?_)
          refine x_op rfl (x_val (r_lss rfl rfl rfl) rfl (x_dec (fun h24 => ?_) (fun h24 => ?_)))
          · refine x_op rfl (x_val (r_pick_f rfl rfl) rfl ?_)
            refine x_op rfl (x_val (r_move rfl) rfl ?_)
            refine x_off rfl rfl ?_
            refine x_off rfl rfl ?_
            refine x_off rfl rfl ?_
            refine x_op rfl (x_val (r_pick_t rfl rfl) rfl ?_)
            refine x_nil ?_
            refine x_true rfl ?_
            refine x_seq ?_
            refine x_region ?_
            refine x_op rfl (x_val (r_assign rfl) rfl ?_)
            refine x_nil ?_
            refine x_ret ?_
            -- path FFFFT
            exact x_ret1 rfl rfl fun w1 hO => ⟨_, rfl, by unfold fcheck; first | rw [if_pos (by omega)] | rw [if_neg (by omega)], hO.none_⟩
          · refine x_op rfl (x_val (r_pick_f rfl rfl) rfl ?_)
            refine x_op rfl (x_val (r_move rfl) rfl ?_)
            refine x_op rfl (x_val (r_fieldAddr Ty.q23_2 rfl) rfl ?_)
            refine x_op rfl (x_val (r_own_add (i := 0) Ty.z3 rfl rfl rfl) rfl ?_)
            refine x_op rfl (x_val (r_gtr rfl rfl rfl) rfl (x_dec (fun h29 => ?_) (fun h29 => ?_)))
            · refine x_op rfl (x_val (r_pick_f rfl rfl) rfl ?_)
              refine x_nil ?_
              refine x_true rfl ?_
              refine x_seq ?_
              refine x_region ?_
              refine x_op rfl (x_val (r_assign rfl) rfl ?_)
              refine x_nil ?_
              refine x_ret ?_
              -- path FFFFFT
              exact x_ret1 rfl rfl fun w1 hO => ⟨_, rfl, by unfold fcheck; first | rw [if_pos (by omega)] | rw [if_neg (by omega)], hO.none_⟩
            · refine x_op rfl (x_val (r_pick_f rfl rfl) rfl ?_)
              refine x_nil ?_
              refine x_false rfl ?_
              refine x_skip ?_
              refine x_seq ?_
              refine x_region ?_
              refine x_op rfl (x_val (r_assign rfl) rfl ?_)
              refine x_nil ?_
              refine x_ret ?_
              -- path FFFFFF
              exact x_ret1 rfl rfl fun w1 hO => ⟨_, rfl, by unfold fcheck; first | rw [if_pos (by omega)] | rw [if_neg (by omega)], hO.none_⟩
/-- A slice of slices: each one's cell. -/
def slcs (vs : List (Option Addr × Nat × Nat)) : List Value := vs.map fun v => .slice v.1 v.2.1 v.2.2
theorem slcs_get {vs : List (Option Addr × Nat × Nat)} {i : Nat} {v : Option Addr × Nat × Nat} (h : vs[i]? = some v) : (slcs vs)[i * 1 + 0]? = some (.slice v.1 v.2.1 v.2.2) := by simp [slcs, h]
def lenF (vs : List (Option Addr × Nat × Nat)) : Int := match vs with | [] => 0 | v :: _ => v.2.1
set_option maxRecDepth 20000 in
theorem length_ (ch dp rt : Int) (ts : Value) (C : Option Addr) (c : Nat) (vs : List (Option Addr × Nat × Nat)) (w : World) (hts : ts.cells = #[ts]) (hC : Rd w C vs.length 1 (slcs vs)) :
    Calls Tryd.prog 28 #[.agg #[.int .i64 ch, .int .i64 dp, .int .i64 rt, ts, .slice C vs.length c]] w fun en w1 => ∃ r, en = .returned r ∧ (r = .int .i64 (lenF vs) ∧ Own w [] [] w1) := by
  refine fn_enter (args := [_]) (F := []) Tryd.func28 rfl rfl rfl ?_
  refine x_seq ?_
  refine x_region ?_
  refine x_op rfl (s_box rfl rfl fun b1 hb1 => ?_)
  refine x_op rfl (x_val (r_assign rfl) rfl ?_)
  refine x_nil ?_
  refine x_seq ?_
  refine x_seq ?_
  refine x_region ?_
  refine x_op rfl (x_val (r_fieldAddr Ty.q29_2 rfl) rfl ?_)
  refine x_op rfl (x_val (r_own_add (i := 0) Ty.z25 rfl rfl rfl) rfl ?_)
  refine x_op rfl (x_val (r_len_slice Tryd.underlying25 rfl) rfl ?_)
  refine x_op rfl (x_val (r_eql rfl rfl rfl) rfl (x_dec (fun h6 => ?_) (fun h6 => ?_)))
  · refine x_nil ?_
    refine x_true rfl ?_
    refine x_seq ?_
    refine x_region ?_
    refine x_op rfl (x_val (r_assign rfl) rfl ?_)
    refine x_nil ?_
    refine x_ret ?_
    -- path T
    exact x_ret1 rfl rfl fun w1 hO => ⟨_, rfl, by cases vs with | nil => rfl | cons a b => simp at h6; omega, hO.none_⟩
  · refine x_nil ?_
    refine x_false rfl ?_
    refine x_skip ?_
    refine x_seq ?_
    refine x_region ?_
    refine x_op rfl (x_val (r_fieldAddr Ty.q29_2 rfl) rfl ?_)
    refine x_op rfl (x_val (r_own_add (i := 0) Ty.z25 rfl rfl rfl) rfl ?_)
    obtain ⟨ad, rfl⟩ := hC.some_ (by omega)
    obtain ⟨v, vr, rfl⟩ : ∃ v vr, vs = v :: vr := by cases vs with | nil => simp at h6 | cons a b => exact ⟨a, b, rfl⟩
    refine x_op rfl (x_val (r_indexAddr Tryd.underlying25 Ty.i41 rfl rfl ⟨by omega, by omega⟩) rfl ?_)
    refine x_op rfl (x_val (r_load1 (v := .slice v.1 v.2.1 v.2.2) Ty.z41 rfl (fun w hS => (hS.rd0 hC).cell_ (k := 0) (j := 0) (by simp) (by omega) rfl (slcs_get (by rfl)))) rfl ?_)
    refine x_op rfl (x_val (r_len_slice Tryd.underlying41 rfl) rfl ?_)
    refine x_op rfl (x_val (r_assign rfl) rfl ?_)
    refine x_nil ?_
    refine x_ret ?_
    -- path F
    exact x_ret1 rfl rfl fun w1 hO => ⟨_, rfl, rfl, hO.none_⟩
set_option maxRecDepth 20000 in
theorem Equal_ (A B : Option Addr) (c c' n m : Nat) (a b : List UInt8) (w : World) (hn : a.length = n) (hm : b.length = m) (ha : Rd w A n 1 (u8s a)) (hb : Rd w B m 1 (u8s b)) :
    Calls Tryd.prog 20 #[.slice A n c, .slice B m c'] w fun en w1 => ∃ r, en = .returned r ∧ (r = .bool ((⟨a.toArray⟩ : ByteArray).toList == (⟨b.toArray⟩ : ByteArray).toList) ∧ Own w [] [] w1) := by
  subst hn; subst hm
  refine fn_enter (args := [_, _]) (F := []) Tryd.func20 rfl rfl rfl ?_
  refine x_seq ?_
  refine x_region ?_
  refine x_op rfl (x_val (r_assign rfl) rfl ?_)
  refine x_nil ?_
  refine x_seq ?_
  refine x_region ?_
  refine x_op rfl (x_val (r_move rfl) rfl ?_)
  refine x_op rfl (x_val (r_bytes_strB Tryd.underlying31 Tryd.underlying5 Tryd.underlying9 rfl (fun w hS => hS.rd0 ha)) rfl ?_)
  refine x_op rfl (x_val (r_move rfl) rfl ?_)
  refine x_op rfl (x_val (r_bytes_strB Tryd.underlying31 Tryd.underlying5 Tryd.underlying9 rfl (fun w hS => hS.rd0 hb)) rfl ?_)
  refine x_op rfl (x_val (r_eql_string rfl rfl rfl) rfl ?_)
  refine x_op rfl (x_val (r_assign rfl) rfl ?_)
  refine x_nil ?_
  refine x_ret ?_
  -- path 
  exact x_ret1 rfl rfl fun w1 hO => ⟨_, rfl, rfl, hO.none_⟩
theorem Rd.take1 {w : World} {A : Option Addr} {n k : Nat} {l : List UInt8} (h : Rd w A n 1 (u8s l)) (hk : k ≤ n) : Rd w A k 1 (u8s (l.take k)) := by
  have := h.take_ hk
  rw [Nat.mul_one] at this
  simpa [u8s, List.map_take] using this
set_option maxRecDepth 20000 in
theorem HasPrefix_ (A B : Option Addr) (c c' : Nat) (a b : List UInt8) (w : World) (hl : b.length ≤ a.length) (hc : a.length ≤ c) (hmax : c ≤ 1000000000000) (ha : Rd w A a.length 1 (u8s a)) (hb : Rd w B b.length 1 (u8s b)) :
    Calls Tryd.prog 41 #[.slice A a.length c, .slice B b.length c'] w fun en w1 => ∃ r, en = .returned r ∧ (r = .bool ((⟨(a.take b.length).toArray⟩ : ByteArray).toList == (⟨b.toArray⟩ : ByteArray).toList) ∧ Own w [] [] w1) := by
  refine fn_enter (args := [_, _]) (F := []) Tryd.func41 rfl rfl rfl ?_
  refine x_seq ?_
  refine x_region ?_
  refine x_op rfl (x_val (r_assign rfl) rfl ?_)
  refine x_nil ?_
  refine x_seq ?_
  refine x_region ?_
  refine x_op rfl (x_val (r_move rfl) rfl ?_)
  refine x_op rfl (x_val (r_len_slice Tryd.underlying31 rfl) rfl ?_)
  refine x_op rfl (x_val (r_move rfl) rfl ?_)
  refine x_op rfl (x_val (r_len_slice Tryd.underlying31 rfl) rfl ?_)
  refine x_op rfl (x_val (r_geq (r := true) rfl rfl (decide_eq_true (by omega))) rfl ?_)
  refine x_op rfl (x_val (r_move rfl) rfl ?_)
  refine x_op rfl (x_val (r_move rfl) rfl ?_)
  refine x_op rfl (x_val (r_move rfl) rfl ?_)
  refine x_op rfl (x_val (r_len_slice Tryd.underlying31 rfl) rfl ?_)
  refine x_op rfl (x_val (r_slice_hi Tryd.underlying31 Ty.i5 rfl rfl ⟨by omega, by omega⟩) rfl ?_)
  refine x_op rfl (x_val (r_move rfl) rfl ?_)
  refine x_op rfl (s_call Ty.c20 rfl rfl (fun w hw => Equal_ A B c c' b.length b.length (a.take b.length) b w (by rw [List.length_take]; omega) rfl (Rd.take1 (hw.rd0 ha) hl) (hw.rd0 hb)) (fun wq v wq1 hw h => ?_))
  obtain ⟨rfl, hO⟩ := h
  refine ⟨_, hw.call0 hO, ?_⟩
  refine x_nf (L' := []) rfl ?_
  refine x_op rfl (x_val (r_pick_t rfl rfl) rfl ?_)
  refine x_op rfl (x_val (r_assign rfl) rfl ?_)
  refine x_nil ?_
  refine x_ret ?_
  -- path 
  exact x_ret1 rfl rfl fun w1 hO => ⟨_, rfl, rfl, hO.none_⟩
end Go.Proofs.YtlpoepmipbegaaaDoor.Wv
