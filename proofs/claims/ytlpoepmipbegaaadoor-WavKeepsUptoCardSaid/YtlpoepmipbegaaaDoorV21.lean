/- rings: one small file, byte by byte. -/
import Derived.Test.YtlpoepmipbegaaaDoorV20
set_option linter.unusedVariables false
set_option linter.unusedSimpArgs false
namespace Go.Proofs.YtlpoepmipbegaaaDoor.Wv
open Go Go.RowKit Go.Proofs.YtlpoepmipbegaaaDoor.En
theorem ringOk : TrackOk ((1 : Nat) : Int) 8 8000 [] (pairOf 1 [0, -128, 127] []) := by
  refine ⟨by decide, by decide, rfl, rfl, fun xs hx => ?_, fun xs hx x h => ?_⟩
  · obtain rfl := List.mem_singleton.1 (show xs ∈ [[0, -128, 127]] from hx)
    exact ⟨by decide, rfl⟩
  · obtain rfl := List.mem_singleton.1 (show xs ∈ [[0, -128, 127]] from hx)
    simp only [List.mem_cons, List.not_mem_nil, or_false] at h
    unfold fits
    rcases h with rfl | rfl | rfl <;> decide
def ringL : List UInt8 := encP 1 8 8000 [] [0, -128, 127] []
theorem ring_len : ringL.length = 48 := by decide +kernel
theorem ring_a : ringL.take 4 = [82, 73, 70, 70] := by decide +kernel
theorem ring_b : (ringL.drop 36).take 4 = [100, 97, 116, 97] := by decide +kernel
theorem ring_c : ringL.drop 44 = [128, 0, 255, 0] := by decide +kernel
theorem ring_call {w0 w : World} {F : List Nat} {L : List Asn} {i j b5 b6 : Nat} (hw : Own w0 F L w) (hi : L[i]? = some (bl b6 41 #[.slice (some ⟨b5, 0, none⟩) 3 3])) (hj : L[j]? = some (bl b5 3 #[.int .i64 0, .int .i64 (-128), .int .i64 127])) (hg : Glob w) :
    Calls Tryd.prog 6 #[.agg #[.int .i64 1, .int .i64 8, .int .i64 8000, .slice none 0 0, .slice (some ⟨b6, 0, none⟩) 1 1]] w fun en w1 => ∃ r, en = .returned r ∧
      ∃ A' cap', r = .tuple #[.slice A' ringL.length cap', .int .i64 0] ∧ BOk A' cap' ringL ∧ Own w [] [SB 5 A' cap' ringL] w1 :=
  EncodeP 1 8 8000 none (some ⟨b6, 0, none⟩) 0 1 [] (some ⟨b5, 0, none⟩, 3, 3) (none, 0, 0) [0, -128, 127] [] w ⟨.inl rfl, fun _ => rfl, fun h => by cases h⟩ ringOk (Rd.nil_ w none 1) (hw.rd_bl hi rfl (by simp [maxLen]) rfl)
    ⟨rfl, SlOk.made rfl (Nat.le_refl _) (by simp [maxLen]), hw.rd_bl hj rfl (by simp [maxLen]) rfl⟩ ⟨rfl, SlOk.nil_ 1, Rd.nil_ w none 1⟩ hg
theorem dropB {w : World} {A : Option Addr} {n k cap : Nat} {l : List UInt8} (h : Rd w A n 1 (u8s l)) (hk : k ≤ n) (hc : n ≤ cap) : Rd w (if cap = k then A else A.map (·.add (k * 1))) (n - k) 1 (u8s (l.drop k)) := by
  have := h.drop_ hk hc
  rw [Nat.mul_one] at this
  rw [Nat.mul_one]
  have e : u8s (l.drop k) = (u8s l).drop k := by simp [u8s]
  rw [e]
  exact this
set_option maxRecDepth 20000 in
theorem rings_ (w : World) (hg : Glob w) :
    Calls Tryd.prog 4 #[] w fun en w1 => ∃ r, en = .returned r ∧ (r = .bool true ∧ Own w [] [] w1) := by
  have hl := ring_len
  have ha := ring_a
  have hb := ring_b
  have hc := ring_c
  refine fn_enter (args := []) (F := []) Tryd.func4 rfl rfl rfl ?_
  refine x_seq ?_
  refine x_region ?_
  refine x_op rfl (x_val (r_assign rfl) rfl ?_)
  refine x_nil ?_
  refine x_seq ?_
  refine x_region ?_
  refine x_op rfl (x_val (r_build Ty.i23 Ty.p23 rfl rfl) rfl ?_)
  refine x_op rfl (s_buildSlice Tryd.underlying41 Ty.i3 rfl rfl rfl rfl fun b5 hb5 => ?_)
  refine x_op rfl (s_buildSlice Tryd.underlying25 Ty.i41 rfl rfl rfl rfl fun b6 hb6 => ?_)
  refine x_op rfl (x_val (r_build Ty.i29 Ty.p29 rfl rfl) rfl ?_)
  refine x_op rfl (s_call Ty.c6 rfl rfl (fun w hw => ring_call hw (i := 0) (j := 1) rfl rfl (hw.glob hg)) (fun wq v wq1 hw h => ?_))
  obtain ⟨E1, ce, rfl, hE, hO⟩ := h
  refine ⟨_, hw.call0 hO, ?_⟩
  generalize ringL = l at *
  have hce := hE.2.1
  have hE' : SlOk E1 48 ce 1 (u8s l) := hl ▸ hE
  rw [hl] at hce
  rw [hl]
  refine x_nf (L' := [_, _, _]) rfl ?_
  refine x_op rfl (x_val (r_move rfl) rfl ?_)
  refine x_op rfl (x_val (r_extract rfl rfl) rfl ?_)
  refine x_op rfl (x_val (r_extract rfl rfl) rfl ?_)
  refine x_op rfl (x_val (r_assign rfl) rfl ?_)
  refine x_op rfl (x_val (r_assign rfl) rfl ?_)
  refine x_nil ?_
  refine x_seq ?_
  refine x_region ?_
  refine x_op rfl (x_val (r_move rfl) rfl ?_)
  refine x_op rfl (x_val (r_eql rfl rfl rfl) rfl ?_)
  refine x_op rfl (x_val (r_move rfl) rfl ?_)
  refine x_op rfl (x_val (r_move rfl) rfl ?_)
  refine x_op rfl (x_val (r_len_slice Tryd.underlying31 rfl) rfl ?_)
  refine x_op rfl (x_val (r_eql (r := true) rfl rfl rfl) rfl ?_)
  refine x_op rfl (x_val (r_pick_t rfl rfl) rfl ?_)
  refine x_op rfl (x_val (r_move rfl) rfl ?_)
  refine x_op rfl (x_val (r_move rfl) rfl ?_)
  refine x_op rfl (x_val (r_slice_hi Tryd.underlying31 Ty.i5 rfl rfl ⟨by omega, by omega⟩) rfl ?_)
  refine x_op rfl (x_val (r_bytes_strB (l := [82, 73, 70, 70]) Tryd.underlying31 Tryd.underlying5 Tryd.underlying9 rfl (fun w hS => by have q := Rd.take1 (k := 4) (hS.rd_sl (i := 0) rfl hE') (by omega); rw [ha] at q; exact q)) rfl ?_)
  refine x_op rfl (x_val (r_eql_string (r := true) rfl rfl (beq_self_eq_true _)) rfl ?_)
  refine x_op rfl (x_val (r_pick_t rfl rfl) rfl ?_)
  refine x_op rfl (x_val (r_move rfl) rfl ?_)
  refine x_op rfl (x_val (r_move rfl) rfl ?_)
  refine x_op rfl (x_val (r_slice_lohi Tryd.underlying31 Ty.i5 rfl rfl rfl ⟨by omega, by omega, by omega⟩) rfl ?_)
  refine x_op rfl (x_val (r_bytes_strB (l := [100, 97, 116, 97]) Tryd.underlying31 Tryd.underlying5 Tryd.underlying9 rfl (fun w hS => by have q := Rd.take1 (k := 4) (dropB (k := 36) (hS.rd_sl (i := 0) rfl hE') (by omega) hce) (by omega); rw [hb] at q; exact q)) rfl ?_)
  refine x_op rfl (x_val (r_eql_string (r := true) rfl rfl (beq_self_eq_true _)) rfl ?_)
  refine x_op rfl (x_val (r_pick_t rfl rfl) rfl ?_)
  refine x_op rfl (x_val (r_move rfl) rfl ?_)
  refine x_op rfl (x_val (r_move rfl) rfl ?_)
  refine x_op rfl (x_val (r_slice_lo Tryd.underlying31 Ty.i5 rfl rfl ⟨by omega, by omega⟩ (by omega)) rfl ?_)
  refine x_op rfl (x_val (r_bytes_strB (l := [128, 0, 255, 0]) Tryd.underlying31 Tryd.underlying5 Tryd.underlying9 rfl (fun w hS => by have q := dropB (k := 44) (hS.rd_sl (i := 0) rfl hE') (by omega) hce; rw [hc] at q; exact q)) rfl ?_)
  refine x_op rfl (x_val (r_eql_string (r := true) rfl rfl (beq_self_eq_true _)) rfl ?_)
  refine x_op rfl (x_val (r_pick_t rfl rfl) rfl ?_)
  refine x_op rfl (x_val (r_assign rfl) rfl ?_)
  refine x_nil ?_
  refine x_ret ?_
  -- path 
  exact x_ret1 rfl rfl fun w1 hO => ⟨_, rfl, rfl, hO.none_⟩
end Go.Proofs.YtlpoepmipbegaaaDoor.Wv
