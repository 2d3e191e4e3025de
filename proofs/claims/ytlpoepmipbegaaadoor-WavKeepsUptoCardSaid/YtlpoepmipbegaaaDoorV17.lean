/- wav.Slice of nothing; wav.Join. -/
import Derived.Test.YtlpoepmipbegaaaDoorV16
set_option linter.unusedVariables false
set_option linter.unusedSimpArgs false
namespace Go.Proofs.YtlpoepmipbegaaaDoor.Wv
open Go Go.RowKit Go.Proofs.YtlpoepmipbegaaaDoor.En
theorem run_neq_shape_same (a b c : Int) (w : World) : (binOp .neq 23 (.agg #[.int .i64 a, .int .i64 b, .int .i64 c]) (.agg #[.int .i64 a, .int .i64 b, .int .i64 c])).run Tryd.prog w = .ok (.bool false) w := by
  have h : ∀ d : Nat, (Op.equalIn (d + 2) 23 (.agg #[.int .i64 a, .int .i64 b, .int .i64 c]) (.agg #[.int .i64 a, .int .i64 b, .int .i64 c])).run Tryd.prog w = .ok true w := fun d => by
    simp [Op.equalIn, run_underlying Tryd.underlying23, run_underlying Tryd.underlying3, Op.eqFields, part, sizeOf, typeInfo]
  simp only [binOp]
  simp [Op.equal, Op.maxDepth, h 9998]
theorem r_neq_shape {n : Nat} {S : World → Prop} {e : Env} {dst : Option Tmp} {ty : TypeId} {pos : String} {af : Array Edge} {g : Option (Nat × Bool)} {x y : Operand} {yt : TypeId} {a b c : Int} (hx : ev e x = some (.agg #[.int .i64 a, .int .i64 b, .int .i64 c])) (hy : ev e y = some (.agg #[.int .i64 a, .int .i64 b, .int .i64 c])) :
    Rig Tryd.prog n S e ⟨dst, .binOp .neq 23 x y yt, ty, pos, af, g⟩ (.bool false) := Rig.mk_ fun ac w hs _ => by
  simp only [execOp, hs.ev_ hx, hs.ev_ hy]
  simp [go_sem, run_neq_shape_same]
set_option maxHeartbeats 2000000 in
set_option maxRecDepth 20000 in
theorem Slice_ (ch dp rt : Int) (ts : List ByteArray) (d : List UInt8) (B : Option Addr) (c : Nat) (w : World) (hsh : 1 ≤ ch ∧ ch ≤ 2 ∧ 4 ≤ dp ∧ dp ≤ 24 ∧ 1 ≤ rt ∧ rt ≤ 655350) (h8 : ts.length ≤ 8) (hts : allTags ts = true) (hdm : (d.length : Int) % blk ch dp = 0) (hdq : (d.length : Int) / blk ch dp ≤ 4096) (hd : d.length ≤ 400000)
    (hle : (fileB ch dp rt ts d).length ≤ c) (hmax : c ≤ 1000000000000) (hr : Rd w B (fileB ch dp rt ts d).length 1 (u8s (fileB ch dp rt ts d))) (hg : Glob w) :
    Calls Tryd.prog 10 #[.slice B (fileB ch dp rt ts d).length c, .int .i64 0, .int .i64 0] w fun en w1 => ∃ r, en = .returned r ∧ ∃ (l : List UInt8) (A : Option Addr) (cap : Nat), r = .tuple #[.slice A l.length cap, .int .i64 0] ∧ BOk A cap l ∧ Own w [] [SB 5 A cap l] w1 := by
  have hbd := blk_bd (ch := ch) (dp := dp) (by omega) (by omega)
  have hq0 : 0 ≤ (d.length : Int) / blk ch dp := Int.ediv_nonneg (by omega) (by omega)
  refine fn_enter (args := [_, _, _]) (F := []) Tryd.func10 rfl rfl rfl ?_
  refine x_seq ?_
  refine x_region ?_
  refine x_op rfl (x_val (r_assign rfl) rfl ?_)
  refine x_op rfl (x_val (r_assign rfl) rfl ?_)
  refine x_nil ?_
  refine x_seq ?_
  refine x_region ?_
  refine x_op rfl (x_val (r_move rfl) rfl ?_)
  refine x_op rfl (s_call Ty.c17 rfl rfl (fun w hw => look_ ch dp rt ts d B c w hsh h8 hts hdm hdq (by omega) hle hmax (hw.rd0 hr) (hw.glob hg)) (fun wq v wq1 hw h => ?_))
  obtain ⟨T1, ct1, D, cD, rfl, hT1, hDr, hcD, hcM, hO⟩ := h
  refine ⟨_, hw.call0 hO, ?_⟩
  refine x_nf (L' := [_]) rfl ?_
  refine x_op rfl (x_val (r_move rfl) rfl ?_)
  refine x_op rfl (x_val (r_extract rfl rfl) rfl ?_)
  refine x_op rfl (x_val (r_extract rfl rfl) rfl ?_)
  refine x_op rfl (s_alloc Ty.i48 rfl fun b8 hb8 => ?_)
  refine x_op rfl (s_store (i := 0) Ty.z48 rfl rfl rfl rfl rfl rfl ?_)
  refine x_nf (L' := [bl _ _ #[_, _, _, _, _], _]) rfl ?_
  refine x_op rfl (x_val (r_assign rfl) rfl ?_)
  refine x_nil ?_
  refine x_seq ?_
  refine x_block ?_
  refine x_seq ?_
  refine x_region ?_
  refine x_op rfl (x_val (r_move rfl) rfl ?_)
  refine x_op rfl (x_val (r_neq rfl rfl rfl) rfl ?_)
  refine x_op rfl (x_val (r_assign rfl) rfl ?_)
  refine x_nil ?_
  refine x_false rfl ?_
  refine x_seq ?_
  refine x_region ?_
  refine x_op rfl (x_val (r_move rfl) rfl ?_)
  refine x_op rfl (x_val (r_lss rfl rfl rfl) rfl ?_)
  refine x_op rfl (x_val (r_move rfl) rfl ?_)
  refine x_op rfl (x_val (r_move rfl) rfl ?_)
  refine x_op rfl (x_val (r_lss rfl rfl rfl) rfl ?_)
  refine x_op rfl (x_val (r_pick_f rfl rfl) rfl ?_)
  refine x_op rfl (x_val (r_move rfl) rfl ?_)
  refine x_op rfl (x_val (r_move rfl) rfl ?_)
  refine x_op rfl (x_val (r_ownN (i := 0) Ty.z48 rfl rfl rfl) rfl ?_)
  refine x_op rfl (s_call Ty.c18 rfl rfl (fun w hw => count_ ch dp rt (.slice T1 ts.length ct1) D d.length cD w (by omega) (by omega) hbd (by omega) rfl) (fun wq v wq1 hw h => ?_))
  obtain ⟨rfl, hO⟩ := h
  refine ⟨_, hw.call0 hO, ?_⟩
  refine x_nf (L' := [bl _ _ #[_, _, _, _, _], _]) rfl ?_
  refine x_op rfl (x_val (r_gtr (r := false) rfl rfl (decide_eq_false (by omega))) rfl ?_)
  refine x_op rfl (x_val (r_pick_f rfl rfl) rfl ?_)
  refine x_op rfl (x_val (r_move rfl) rfl ?_)
  refine x_op rfl (x_val (r_move rfl) rfl ?_)
  refine x_op rfl (x_val (r_ownN (i := 0) Ty.z48 rfl rfl rfl) rfl ?_)
  refine x_op rfl (s_call Ty.c18 rfl rfl (fun w hw => count_ ch dp rt (.slice T1 ts.length ct1) D d.length cD w (by omega) (by omega) hbd (by omega) rfl) (fun wq v wq1 hw h => ?_))
  obtain ⟨rfl, hO⟩ := h
  refine ⟨_, hw.call0 hO, ?_⟩
  refine x_nf (L' := [bl _ _ #[_, _, _, _, _], _]) rfl ?_
  refine x_op rfl (x_val (r_move rfl) rfl ?_)
  refine x_op rfl (x_val (r_sub rfl rfl ⟨by omega, by omega⟩) rfl ?_)
  refine x_op rfl (x_val (r_gtr (r := false) rfl rfl (decide_eq_false (by omega))) rfl ?_)
  refine x_op rfl (x_val (r_pick_f rfl rfl) rfl ?_)
  refine x_op rfl (x_val (r_assign rfl) rfl ?_)
  refine x_nil ?_
  refine x_false rfl ?_
  refine x_skip ?_
  refine x_seq ?_
  refine x_region ?_
  refine x_op rfl (x_val (r_fieldAddr Ty.q48_0 rfl) rfl ?_)
  refine x_op rfl (x_val (r_own_at (i := 0) Ty.z23 rfl rfl rfl rfl) rfl ?_)
  refine x_op rfl (s_call Ty.c21 rfl rfl (fun w hw => block_ ch dp rt w (by omega) (by omega) (by omega)) (fun wq v wq1 hw h => ?_))
  obtain ⟨rfl, hO⟩ := h
  refine ⟨_, hw.call0 hO, ?_⟩
  refine x_nf (L' := [bl _ _ #[_, _, _, _, _], _]) rfl ?_
  refine x_op rfl (x_val (r_assign rfl) rfl ?_)
  refine x_nil ?_
  refine x_seq ?_
  refine x_region ?_
  refine x_op rfl (x_val (r_fieldAddr Ty.q48_2 rfl) rfl ?_)
  refine x_op rfl (x_val (r_own_add (i := 0) Ty.z31 rfl rfl rfl) rfl ?_)
  refine x_op rfl (x_val (r_move rfl) rfl ?_)
  refine x_op rfl (x_val (r_move rfl) rfl ?_)
  refine x_op rfl (x_val (r_mulE (r := 0) rfl rfl (Int.zero_mul _) (by decide)) rfl ?_)
  refine x_op rfl (x_val (r_move rfl) rfl ?_)
  refine x_op rfl (x_val (r_move rfl) rfl ?_)
  refine x_op rfl (x_val (r_add rfl rfl ⟨by omega, by omega⟩) rfl ?_)
  refine x_op rfl (x_val (r_move rfl) rfl ?_)
  refine x_op rfl (x_val (r_mulE (r := 0) rfl rfl (Int.zero_mul _) (by decide)) rfl ?_)
  refine x_op rfl (x_val (r_slice_lohi Tryd.underlying31 Ty.i5 rfl rfl rfl ⟨by omega, by omega, by omega⟩) rfl ?_)
  refine x_op rfl (x_val (r_fieldAddr Ty.q48_2 rfl) rfl ?_)
  refine x_op rfl (s_store (i := 0) Ty.z31 rfl rfl rfl rfl rfl rfl ?_)
  refine x_nf (L' := [bl _ _ #[_, _, _, _, _], _]) rfl ?_
  refine x_nil ?_
  refine x_seq ?_
  refine x_region ?_
  refine x_op rfl (x_val (r_ownN (i := 0) Ty.z48 rfl rfl rfl) rfl ?_)
  refine x_op rfl (s_call Ty.c16 rfl rfl (fun w hw => file_ ch dp rt T1 _ ct1 0 _ ts [] w (by omega) (by omega) (by omega) hbd (rblk_bd (by omega) (by omega) (by omega)) h8 (fun t ht => isTagF_small (List.all_eq_true.1 hts t ht)) (by simp) (hw.rd_sl (i := 1) rfl hT1) ⟨rfl, by simp, fun h => absurd h (by decide)⟩) (fun wq v wq1 hw h => ?_))
  obtain ⟨R1, r1, rfl, hR1, hO⟩ := h
  refine ⟨_, hw.call0 hO, ?_⟩
  refine x_nf (L' := [_, bl _ _ #[_, _, _, _, _], _]) rfl ?_
  refine x_op rfl (x_val (r_assign rfl) rfl ?_)
  refine x_op rfl (x_val (r_assign rfl) rfl ?_)
  refine x_nil ?_
  refine x_ret ?_
  -- path 
  exact x_rets (rs := []) (vs := []) rfl ⟨rfl, rfl, trivial⟩ fun w1 hO => ⟨_, rfl, _, R1, r1, rfl, hR1, hO.pick_ [0] (by decide)⟩
theorem two_by {w : World} {D D2 : Option Addr} {c c2 : Nat} {d : List UInt8} (h : Rd w D d.length 1 (u8s d)) (h2 : Rd w D2 d.length 1 (u8s d)) : ByOk w [(D, d.length, c), (D2, d.length, c2)] [d, d] := by
  refine ⟨rfl, fun i v l hv hl => ?_⟩
  match i with
  | 0 =>
    obtain rfl : (D, d.length, c) = v := by injection hv
    obtain rfl : d = l := by injection hl
    exact ⟨rfl, h⟩
  | 1 =>
    obtain rfl : (D2, d.length, c2) = v := by injection hv
    obtain rfl : d = l := by injection hl
    exact ⟨rfl, h2⟩
  | i + 2 => cases hv
set_option maxHeartbeats 2000000 in
set_option maxRecDepth 20000 in
theorem Join_ (ch dp rt : Int) (ts : List ByteArray) (d : List UInt8) (B : Option Addr) (c c2 : Nat) (w : World) (hsh : 1 ≤ ch ∧ ch ≤ 2 ∧ 4 ≤ dp ∧ dp ≤ 24 ∧ 1 ≤ rt ∧ rt ≤ 655350) (h8 : ts.length ≤ 8) (hts : allTags ts = true) (hdm : (d.length : Int) % blk ch dp = 0) (hdq : (d.length : Int) / blk ch dp ≤ 4096) (hd : d.length ≤ 400000)
    (hle : (fileB ch dp rt ts d).length ≤ c) (hmax : c ≤ 1000000000000) (hle2 : (fileB ch dp rt ts d).length ≤ c2) (hmax2 : c2 ≤ 1000000000000) (hr : Rd w B (fileB ch dp rt ts d).length 1 (u8s (fileB ch dp rt ts d))) (hg : Glob w) :
    Calls Tryd.prog 11 #[.slice B (fileB ch dp rt ts d).length c, .slice B (fileB ch dp rt ts d).length c2] w fun en w1 => ∃ r, en = .returned r ∧ ∃ (e : Int) (l : List UInt8) (A : Option Addr) (cap : Nat), r = .tuple #[.slice A l.length cap, .int .i64 e] ∧ (e = 0 ∨ e = 14) ∧ BOk A cap l ∧ Own w [] [SB 5 A cap l] w1 := by
  have hbd := blk_bd (ch := ch) (dp := dp) (by omega) (by omega)
  have hq0 : 0 ≤ (d.length : Int) / blk ch dp := Int.ediv_nonneg (by omega) (by omega)
  refine fn_enter (args := [_, _]) (F := []) Tryd.func11 rfl rfl rfl ?_
  refine x_seq ?_
  refine x_region ?_
  refine x_op rfl (x_val (r_assign rfl) rfl ?_)
  refine x_op rfl (x_val (r_assign rfl) rfl ?_)
  refine x_nil ?_
  refine x_seq ?_
  refine x_region ?_
  refine x_op rfl (x_val (r_move rfl) rfl ?_)
  refine x_op rfl (s_call Ty.c17 rfl rfl (fun w hw => look_ ch dp rt ts d B c w hsh h8 hts hdm hdq (by omega) hle hmax (hw.rd0 hr) (hw.glob hg)) (fun wq v wq1 hw h => ?_))
  obtain ⟨T1, ct1, D, cD, rfl, hT1, hDr, hcD, hcM, hO⟩ := h
  refine ⟨_, hw.call0 hO, ?_⟩
  have hD := hDr _ hr
  refine x_nf (L' := [_]) rfl ?_
  refine x_op rfl (x_val (r_move rfl) rfl ?_)
  refine x_op rfl (x_val (r_extract rfl rfl) rfl ?_)
  refine x_op rfl (x_val (r_extract rfl rfl) rfl ?_)
  refine x_op rfl (s_alloc Ty.i48 rfl fun b6 hb6 => ?_)
  refine x_op rfl (s_store (i := 0) Ty.z48 rfl rfl rfl rfl rfl rfl ?_)
  refine x_nf (L' := [bl _ _ #[_, _, _, _, _], _]) rfl ?_
  refine x_op rfl (x_val (r_assign rfl) rfl ?_)
  refine x_nil ?_
  refine x_seq ?_
  refine x_seq ?_
  refine x_region ?_
  refine x_op rfl (x_val (r_move rfl) rfl ?_)
  refine x_op rfl (x_val (r_neq rfl rfl rfl) rfl ?_)
  refine x_nil ?_
  refine x_false rfl ?_
  refine x_skip ?_
  refine x_seq ?_
  refine x_region ?_
  refine x_op rfl (x_val (r_move rfl) rfl ?_)
  refine x_op rfl (s_call Ty.c17 rfl rfl (fun w hw => look_ ch dp rt ts d B c2 w hsh h8 hts hdm hdq (by omega) hle2 hmax2 (hw.rd0 hr) (hw.glob hg)) (fun wq v wq1 hw h => ?_))
  obtain ⟨T2, ct2, D2, cD2, rfl, hT2, hDr2, hcD2, hcM2, hO⟩ := h
  refine ⟨_, hw.call0 hO, ?_⟩
  have hD2 := hDr2 _ hr
  refine x_nf (L' := [_, bl _ _ #[_, _, _, _, _], _]) rfl ?_
  refine x_op rfl (x_val (r_move rfl) rfl ?_)
  refine x_op rfl (x_val (r_extract rfl rfl) rfl ?_)
  refine x_op rfl (x_val (r_extract rfl rfl) rfl ?_)
  refine x_op rfl (s_alloc Ty.i48 rfl fun b8 hb8 => ?_)
  refine x_op rfl (s_store (i := 0) Ty.z48 rfl rfl rfl rfl rfl rfl ?_)
  refine x_nf (L' := [bl _ _ #[_, _, _, _, _], _, bl _ _ #[_, _, _, _, _], _]) rfl ?_
  refine x_op rfl (x_val (r_assign rfl) rfl ?_)
  refine x_nil ?_
  refine x_seq ?_
  refine x_block ?_
  refine x_seq ?_
  refine x_region ?_
  refine x_op rfl (x_val (r_move rfl) rfl ?_)
  refine x_op rfl (x_val (r_neq rfl rfl rfl) rfl ?_)
  refine x_op rfl (x_val (r_assign rfl) rfl ?_)
  refine x_nil ?_
  refine x_false rfl ?_
  refine x_seq ?_
  refine x_region ?_
  refine x_op rfl (x_val (r_fieldAddr Ty.q48_0 rfl) rfl ?_)
  refine x_op rfl (x_val (r_own_at (i := 2) Ty.z23 rfl rfl rfl rfl) rfl ?_)
  refine x_op rfl (x_val (r_fieldAddr Ty.q48_0 rfl) rfl ?_)
  refine x_op rfl (x_val (r_own_at (i := 0) Ty.z23 rfl rfl rfl rfl) rfl ?_)
  refine x_op rfl (x_val (r_neq_shape rfl rfl) rfl ?_)
  refine x_op rfl (x_val (r_assign rfl) rfl ?_)
  refine x_nil ?_
  refine x_false rfl ?_
  refine x_seq ?_
  refine x_textP [0, 1, 2, 3] (by kernel_rfl) (by decide) ?_
  refine x_tk rfl (r_ownN (i := 2) Ty.z48 rfl rfl rfl) rfl (fun _ h => h.pick_ [0, 1, 2, 3] (by decide)) ?_
  refine x_tany ?_
  refine x_take 2 rfl (by kernel_rfl) rfl (r_ownN (i := 0) Ty.z48 rfl rfl rfl) rfl (fun _ h => h.pick_ [0, 1, 2, 3] (by decide)) ?_
  refine x_all [1] (by kernel_rfl) ⟨?_, trivial⟩
  refine x_do rfl rfl (s_call Ty.c18 rfl rfl (fun w hw => count_ ch dp rt (.slice T1 ts.length ct1) D d.length cD w (by omega) (by omega) hbd (by omega) rfl) (fun wq v wq1 hw h => ?_))
  obtain ⟨rfl, hO⟩ := h
  refine ⟨_, hw.call0 hO, x_and (fun _ h => h.pick_ [0, 1, 2, 3] (by decide)) ?_⟩
  refine x_nf (L' := [bl _ _ #[_, _, _, _, _], _, bl _ _ #[_, _, _, _, _], _]) rfl ?_
  refine x_all [3] (by kernel_rfl) ⟨?_, trivial⟩
  refine x_do rfl rfl (s_call Ty.c18 rfl rfl (fun w hw => count_ ch dp rt (.slice T2 ts.length ct2) D2 d.length cD2 w (by omega) (by omega) hbd (by omega) rfl) (fun wq v wq1 hw h => ?_))
  obtain ⟨rfl, hO⟩ := h
  refine ⟨_, hw.call0 hO, x_and (fun _ h => h.pick_ [0, 1, 2, 3] (by decide)) ?_⟩
  refine x_nf (L' := [bl _ _ #[_, _, _, _, _], _, bl _ _ #[_, _, _, _, _], _]) rfl ?_
  refine x_take 4 rfl (by kernel_rfl) rfl (r_add rfl rfl ⟨by omega, by omega⟩) rfl (fun _ h => h.pick_ [0, 1, 2, 3] (by decide)) ?_
  refine x_take 5 rfl (by kernel_rfl) rfl (r_gtr rfl rfl rfl) rfl (fun _ h => h.pick_ [0, 1, 2, 3] (by decide)) (x_dec (fun h38 => ?_) (fun h38 => ?_))
  · refine x_take 6 rfl (by kernel_rfl) rfl (r_assign rfl) rfl (fun _ h => h.pick_ [0, 1, 2, 3] (by decide)) ?_
    refine x_done (by kernel_rfl) ?_
    refine x_true rfl ?_
    refine x_seq ?_
    refine x_region ?_
    refine x_op rfl (x_val (r_assign rfl) rfl ?_)
    refine x_op rfl (x_val (r_assign rfl) rfl ?_)
    refine x_nil ?_
    refine x_ret ?_
    -- path T
    exact x_rets (rs := []) (vs := []) rfl ⟨rfl, rfl, trivial⟩ fun w1 hO => ⟨_, rfl, 14, [], none, 0, rfl, .inr rfl, SlOk.nil_ 1, hO.none_.nilsl 5 1⟩
  · refine x_take 6 rfl (by kernel_rfl) rfl (r_assign rfl) rfl (fun _ h => h.pick_ [0, 1, 2, 3] (by decide)) ?_
    refine x_done (by kernel_rfl) ?_
    refine x_false rfl ?_
    refine x_skip ?_
    refine x_seq ?_
    refine x_region ?_
    refine x_op rfl (x_val (r_fieldAddr Ty.q48_2 rfl) rfl ?_)
    refine x_op rfl (x_val (r_own_add (i := 2) Ty.z31 rfl rfl rfl) rfl ?_)
    refine x_op rfl (x_val (r_fieldAddr Ty.q48_2 rfl) rfl ?_)
    refine x_op rfl (x_val (r_own_add (i := 0) Ty.z31 rfl rfl rfl) rfl ?_)
    refine x_op rfl (s_buildSlice Tryd.underlying71 Ty.i31 rfl rfl rfl rfl fun b43 hb43 => ?_)
    refine x_op rfl (s_call Ty.c22 rfl rfl (fun w hw => Concat_ (some ⟨b43, 0, none⟩) 2 [(D, d.length, cD), (D2, d.length, cD2)] [d, d] w (hw.rd_bl (i := 0) rfl rfl (by simp [maxLen]) rfl) (by simp) (two_by (hw.rd0 hD) (hw.rd0 hD2)) (by simp; omega)) (fun wq v wq1 hw h => ?_))
    obtain ⟨C1, cc1, rfl, hC1, hO⟩ := h
    refine ⟨_, hw.call0 hO, ?_⟩
    refine x_nf (L' := [_, _, bl _ _ #[_, _, _, _, _], _, bl _ _ #[_, _, _, _, _], _]) rfl ?_
    refine x_op rfl (x_val (r_fieldAddr Ty.q48_2 rfl) rfl ?_)
    refine x_op rfl (s_store (i := 4) Ty.z31 rfl rfl rfl rfl rfl rfl ?_)
    refine x_nf (L' := [_, _, bl _ _ #[_, _, _, _, _], _, bl _ _ #[_, _, _, _, _], _]) rfl ?_
    refine x_nil ?_
    refine x_seq ?_
    refine x_region ?_
    refine x_op rfl (x_val (r_ownN (i := 4) Ty.z48 rfl rfl rfl) rfl ?_)
    refine x_op rfl (s_call Ty.c16 rfl rfl (fun w hw => file_ ch dp rt T1 C1 ct1 0 cc1 ts [d, d].flatten w (by omega) (by omega) (by omega) hbd (rblk_bd (by omega) (by omega) (by omega)) h8 (fun t ht => isTagF_small (List.all_eq_true.1 hts t ht)) (by simp; omega) (hw.rd_sl (i := 5) rfl hT1) (hw.rd_sl (i := 0) rfl hC1)) (fun wq v wq1 hw h => ?_))
    obtain ⟨R1, r1, rfl, hR1, hO⟩ := h
    refine ⟨_, hw.call0 hO, ?_⟩
    refine x_nf (L' := [_, _, _, bl _ _ #[_, _, _, _, _], _, bl _ _ #[_, _, _, _, _], _]) rfl ?_
    refine x_op rfl (x_val (r_assign rfl) rfl ?_)
    refine x_op rfl (x_val (r_assign rfl) rfl ?_)
    refine x_nil ?_
    refine x_ret ?_
    -- path F
    exact x_rets (rs := []) (vs := []) rfl ⟨rfl, rfl, trivial⟩ fun w1 hO => ⟨_, rfl, 0, _, R1, r1, rfl, .inl rfl, hR1, hO.pick_ [0] (by decide)⟩
end Go.Proofs.YtlpoepmipbegaaaDoor.Wv
