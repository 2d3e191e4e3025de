/- The wav package: its small functions. -/
import Derived.Test.YtlpoepmipbegaaaDoorE5
set_option linter.unusedVariables false
set_option linter.unusedSimpArgs false
namespace Go.Proofs.YtlpoepmipbegaaaDoor.Wv
open Go Go.RowKit Go.Proofs.YtlpoepmipbegaaaDoor.En
/-- A number's byte at a place, and its bytes, the lowest first. -/
def leB (n : Int) (i : Nat) : UInt8 := UInt8.ofNat ((n / 256 ^ i) % 256).toNat
def le (n : Int) (k : Nat) : List UInt8 := (List.range k).map (leB n)
theorem le_succ (n : Int) (k : Nat) : le n (k + 1) = le n k ++ [leB n k] := by simp [le, List.range_succ]
theorem le_length (n : Int) (k : Nat) : (le n k).length = k := by simp [le]
theorem leB_wrap (n : Int) (i : Nat) : IntKind.u8.wrap (n / 256 ^ i) = ((leB n i).toNat : Int) := by
  rw [IntKind.wrap_u8]
  have h1 : 0 ≤ (n / 256 ^ i) % 256 := Int.emod_nonneg _ (by decide)
  have h2 : (n / 256 ^ i) % 256 < 256 := Int.emod_lt_of_pos _ (by decide)
  obtain ⟨k, hk⟩ := Int.eq_ofNat_of_zero_le h1
  unfold leB
  rw [hk] at h2 ⊢
  have h3 : k < 256 := by omega
  simp [UInt8.toNat_ofNat', Nat.mod_eq_of_lt h3]
theorem pow8 (i : Nat) : (2 : Int) ^ (8 * (i : Int)).toNat = 256 ^ i := by
  have h1 : (8 * (i : Int)).toNat = 8 * i := by omega
  rw [h1, Int.pow_mul]
  rfl
set_option maxRecDepth 20000 in
theorem low_ (A : Option Addr) (cap : Nat) (l : List UInt8) (n : Int) (k : Nat) (w : World) (hk : BOk A cap l) (hO : Own w (fb [SB 5 A cap l]) [SB 5 A cap l] w) (hl : l.length + k ≤ 1000000000) (hk8 : k ≤ 8) :
    Calls Tryd.prog 15 #[.slice A l.length cap, .int .i64 n, .int .i64 k] w fun en w1 => ∃ r, en = .returned r ∧ ∃ A' cap', r = .slice A' (l ++ le n k).length cap' ∧ BOk A' cap' (l ++ le n k) ∧ Own w (fb [SB 5 A cap l]) [SB 5 A' cap' (l ++ le n k)] w1 := by
  refine fn_enterF (args := [_, _, _]) hO Tryd.func15 rfl rfl rfl ?_
  refine x_seq ?_
  refine x_region ?_
  refine x_op rfl (x_val (r_assign rfl) rfl ?_)
  refine x_nil ?_
  refine x_seq ?_
  refine x_seq ?_
  refine x_region ?_
  refine x_op rfl (x_val (r_move rfl) rfl ?_)
  refine x_op rfl (x_val (r_move rfl) rfl ?_)
  refine x_nil ?_
  refine x_block ?_
  have e0 : l ++ le n 0 = l := by simp [le]
  refine x_loopP (σ := Nat × Option Addr × Nat) [1, 8] [] (fun s => [(0, .slice s.2.1 (l ++ le n s.1).length s.2.2), (9, .int .i64 s.1)]) (fun s => [SB 5 s.2.1 s.2.2 (l ++ le n s.1)]) (fun s => s.1 ≤ k ∧ BOk s.2.1 s.2.2 (l ++ le n s.1)) (fun s => k - s.1) ((0, A, cap)) (by simp only [e0]; repeat (first | exact trivial | refine ⟨rfl, ?_⟩)) (fun _ h => by simp only [e0]; exact h.pick_ [0] (by decide)) ⟨Nat.zero_le _, by simp only [e0]; exact hk⟩ ?_
  rintro ⟨i, A1, c1⟩ ⟨hi, hk1⟩; simp only [] at hi hk1 ⊢
  refine x_nfe (e' := [_, _, _, _]) (L' := [_]) rfl rfl ?_
  refine x_seq ?_
  refine x_region ?_
  refine x_op rfl (x_val (r_lss rfl rfl rfl) rfl (x_dec (fun h10 => ?_) (fun h10 => ?_)))
  · refine x_nil ?_
    refine x_seq ?_
    refine x_true rfl ?_
    refine x_skip ?_
    refine x_seq ?_
    refine x_block ?_
    refine x_seq ?_
    refine x_region ?_
    refine x_op rfl (x_val (r_move rfl) rfl ?_)
    refine x_op rfl (x_val (r_assign rfl) rfl ?_)
    refine x_nil ?_
    refine x_region ?_
    refine x_op rfl (x_val (r_move rfl) rfl ?_)
    refine x_op rfl (x_val (r_move rfl) rfl ?_)
    refine x_op rfl (x_val (r_move rfl) rfl ?_)
    refine x_op rfl (x_val (r_mul rfl rfl ⟨by omega, by omega⟩) rfl ?_)
    refine x_op rfl (x_val (r_shr (256 ^ i) rfl rfl (pow8 i) ⟨by omega, by omega⟩) rfl ?_)
    refine x_op rfl (x_val (r_conv_int Tryd.underlying3 Tryd.underlying5 rfl (leB_wrap n i)) rfl ?_)
    refine x_op rfl (s_buildSlice Tryd.underlying31 Ty.i5 rfl rfl rfl rfl fun b18 hb18 => ?_)
    have hll : (l ++ le n i).length = l.length + i := by rw [List.length_append, le_length]
    refine x_op rfl (s_appB (i := 1) (z := [leB n i]) Tryd.underlying31 Ty.i5 rfl rfl rfl rfl hk1 (fun w hO => hO.rd_bl (i := 0) rfl rfl (by simp [maxLen]) rfl) (by simp only [List.length_singleton]; omega) fun A2 c2 hk2 => ?_)
    refine x_op rfl (x_val (r_assign rfl) rfl ?_)
    refine x_nil ?_
    refine x_region ?_
    refine x_op rfl (x_val (r_add rfl rfl ⟨by omega, by omega⟩) rfl ?_)
    refine x_op rfl (x_val (r_move rfl) rfl ?_)
    refine x_nil ?_
    have e1 : l ++ le n (i + 1) = l ++ le n i ++ [leB n i] := by rw [le_succ, List.append_assoc]
    refine x_again (s := (i, A1, c1)) ((i + 1, A2, c2)) (by simp only [e1]; repeat (first | exact trivial | refine ⟨rfl, ?_⟩)) (fun _ h => by simp only [e1]; exact h.pick_ [1] (by decide)) ⟨by omega, by simp only [e1]; exact hk2⟩ (by simp only []; omega)
  · refine x_nil ?_
    refine x_seq ?_
    refine x_false rfl ?_
    refine x_exit rfl ?_
    refine x_seq ?_
    refine x_region ?_
    refine x_op rfl (x_val (r_move rfl) rfl ?_)
    refine x_op rfl (x_val (r_assign rfl) rfl ?_)
    refine x_nil ?_
    refine x_ret ?_
    -- path F
    have hik : i = k := by omega
    subst hik
    exact x_ret1 rfl rfl fun w1 hO => ⟨_, rfl, A1, c1, rfl, hk1, hO⟩
theorem wide_ (ch dp rt : Int) (w : World) (h : 0 ≤ dp ∧ dp ≤ 1000) :
    Calls Tryd.prog 14 #[.agg #[.int .i64 ch, .int .i64 dp, .int .i64 rt]] w fun en w1 => ∃ r, en = .returned r ∧ (r = .int .i64 ((dp + 7) / 8) ∧ Own w [] [] w1) := by
  refine fn_enter (args := [_]) (F := []) Tryd.func14 rfl rfl rfl ?_
  refine x_seq ?_
  refine x_region ?_
  refine x_op rfl (s_box rfl rfl fun b1 hb1 => ?_)
  refine x_op rfl (x_val (r_assign rfl) rfl ?_)
  refine x_nil ?_
  refine x_seq ?_
  refine x_region ?_
  refine x_op rfl (x_val (r_fieldAddr Ty.q23_1 rfl) rfl ?_)
  refine x_op rfl (x_val (r_own_add (i := 0) Ty.z3 rfl rfl rfl) rfl ?_)
  refine x_op rfl (x_val (r_add rfl rfl ⟨by omega, by omega⟩) rfl ?_)
  refine x_op rfl (x_val (r_quo rfl rfl ⟨by omega, by omega, by omega⟩) rfl ?_)
  refine x_op rfl (x_val (r_assign rfl) rfl ?_)
  refine x_nil ?_
  refine x_ret ?_
  -- path 
  exact x_ret1 rfl rfl fun w1 hO => ⟨_, rfl, rfl, hO.none_⟩
def blk (ch dp : Int) : Int := ch * ((dp + 7) / 8)
theorem block_ (ch dp rt : Int) (w : World) (h : 0 ≤ dp ∧ dp ≤ 1000) (h2 : 0 ≤ ch ∧ ch ≤ 1000) (h3 : 0 ≤ blk ch dp ∧ blk ch dp ≤ 1000000) :
    Calls Tryd.prog 21 #[.agg #[.int .i64 ch, .int .i64 dp, .int .i64 rt]] w fun en w1 => ∃ r, en = .returned r ∧ (r = .int .i64 (blk ch dp) ∧ Own w [] [] w1) := by
  have h3' : 0 ≤ ch * ((dp + 7) / 8) ∧ ch * ((dp + 7) / 8) ≤ 1000000 := h3
  refine fn_enter (args := [_]) (F := []) Tryd.func21 rfl rfl rfl ?_
  refine x_seq ?_
  refine x_region ?_
  refine x_op rfl (s_box rfl rfl fun b1 hb1 => ?_)
  refine x_op rfl (x_val (r_assign rfl) rfl ?_)
  refine x_nil ?_
  refine x_seq ?_
  refine x_textP [0] (by kernel_rfl) (by decide) ?_
  refine x_tk rfl (r_fieldAddr Ty.q23_0 rfl) rfl (fun _ h => h.pick_ [0] (by decide)) ?_
  refine x_tk rfl (r_own_add (i := 0) Ty.z3 rfl rfl rfl) rfl (fun _ h => h.pick_ [0] (by decide)) ?_
  refine x_tk rfl (r_ownN (i := 0) Ty.z23 rfl rfl rfl) rfl (fun _ h => h.pick_ [0] (by decide)) ?_
  refine x_tany ?_
  refine x_all [3] (by kernel_rfl) ⟨?_, trivial⟩
  refine x_do rfl rfl (s_call Ty.c14 rfl rfl (fun w hw => wide_ ch dp rt w h) (fun wq v wq1 hw h => ?_))
  obtain ⟨rfl, hO⟩ := h
  refine ⟨_, hw.call0 hO, x_and (fun _ h => h.pick_ [0] (by decide)) ?_⟩
  refine x_nf (L' := [bl _ _ #[_, _, _]]) rfl ?_
  refine x_take 4 rfl (by kernel_rfl) rfl (r_mul rfl rfl ⟨by omega, by omega⟩) rfl (fun _ h => h.pick_ [0] (by decide)) ?_
  refine x_take 5 rfl (by kernel_rfl) rfl (r_assign rfl) rfl (fun _ h => h.pick_ [0] (by decide)) ?_
  refine x_done (by kernel_rfl) ?_
  refine x_ret ?_
  -- path 
  exact x_ret1 rfl rfl fun w1 hO => ⟨_, rfl, rfl, hO.none_⟩
end Go.Proofs.YtlpoepmipbegaaaDoor.Wv
