/- wav.look at a file. -/
import Derived.Test.YtlpoepmipbegaaaDoorV11
set_option linter.unusedVariables false
set_option linter.unusedSimpArgs false
namespace Go.Proofs.YtlpoepmipbegaaaDoor.Wv
open Go Go.RowKit Go.Proofs.YtlpoepmipbegaaaDoor.En
section
variable {w0 w : World} {F : List Nat} {L : List Asn}
theorem Cur.at_ {i bi m c t : Nat} {B : Option Addr} {rest : List UInt8} {cs : Array Value} (hC : Cur w0 F B m c rest) (hw : Own w0 F L w) (hi : L[i]? = some (bl bi t cs)) (h0 : 0 < m) : Cur w [bi] B m c rest :=
  ⟨hC.len, hC.le, hC.max, hw.rd_old hC.rd (hC.ap h0), fun h => hC.notin hw hi h⟩
theorem formC {i bi m c : Nat} {B : Option Addr} {ch dp rt : Int} {rest : List UInt8} (hw : Own w0 F L w) (hi : L[i]? = some (bl bi 56 #[.slice B m c, .bool false])) (hC : Cur w0 F B m c (formSeq ch dp rt rest)) (hsh : 1 ≤ ch ∧ ch ≤ 2 ∧ 4 ≤ dp ∧ dp ≤ 24 ∧ 1 ≤ rt ∧ rt ≤ 655350) (h0 : 0 < m) :
    Calls Tryd.prog 32 #[.pointer (me bi)] w fun en w1 => ∃ r, en = .returned r ∧ (r = .agg #[.int .i64 ch, .int .i64 dp, .int .i64 rt] ∧ ∃ B' m' c', Cur w0 F B' m' c' rest ∧ (∀ w' F', Cur w' F' B m c (formSeq ch dp rt rest) → Cur w' F' B' m' c' rest) ∧ Own w (fb (pick L [i])) [bl bi 56 #[.slice B' m' c', .bool false]] w1) := by
  have hp : pick L [i] = [bl bi 56 #[.slice B m c, .bool false]] := by simp only [pick, hi]
  have hS := hw.sub_ [i] (by simp)
  rw [hp] at hS ⊢
  refine (form_ bi B m c ch dp rt rest w hsh (hC.at_ hw hi h0) hS).mono ?_
  rintro en w1 ⟨r, rfl, rfl, B', m', c', _, hD, hO⟩
  exact ⟨_, rfl, rfl, _, _, _, hD _ _ hC, hD, hO⟩
def tagPart (ts : List ByteArray) (rest : List UInt8) : List UInt8 := if ts.length = 0 then rest else tagSeq ts rest
theorem tagPart_pos {B : Option Addr} {m c : Nat} {ts : List ByteArray} {r : List UInt8} (hC : Cur w0 F B m c (tagPart ts (dataL ++ r))) : 0 < m := by
  have q := hC.len
  unfold tagPart at q
  split at q
  · rw [List.length_append, show dataL.length = 4 from rfl] at q; omega
  · rw [List.length_append, show tagsL.length = 4 from rfl] at q; omega
theorem tagsC {i bi m c : Nat} {B : Option Addr} {ts : List ByteArray} {r : List UInt8} (hw : Own w0 F L w) (hi : L[i]? = some (bl bi 56 #[.slice B m c, .bool false])) (hC : Cur w0 F B m c (tagPart ts (dataL ++ r))) (h8 : ts.length ≤ 8) (hts : allTags ts = true) (hg : Glob w) (hb0 : 0 ∉ [bi]) (h0 : 0 < m) :
    Calls Tryd.prog 33 #[.pointer (me bi)] w fun en w1 => ∃ r', en = .returned r' ∧ ∃ T' ct', r' = .slice T' ts.length ct' ∧ SlOk T' ts.length ct' 1 (strs ts) ∧ ∃ B' m' c', Cur w0 F B' m' c' (dataL ++ r) ∧ (∀ w' F', Cur w' F' B m c (tagPart ts (dataL ++ r)) → Cur w' F' B' m' c' (dataL ++ r)) ∧ Own w (fb (pick L [i])) [bl bi 56 #[.slice B' m' c', .bool false], sl T' ct' 9 1 (strs ts)] w1 := by
  have hp : pick L [i] = [bl bi 56 #[.slice B m c, .bool false]] := by simp only [pick, hi]
  have hS := hw.sub_ [i] (by simp)
  rw [hp] at hS ⊢
  unfold tagPart at hC ⊢
  by_cases hn : ts.length = 0
  · simp only [if_pos hn] at hC ⊢
    obtain rfl : ts = [] := List.eq_nil_of_length_eq_zero hn
    refine (tags0_ bi B m c r w (hC.at_ hw hi h0) hS).mono ?_
    rintro en w1 ⟨r', rfl, rfl, hO⟩
    refine ⟨_, rfl, none, 0, rfl, SlOk.nil_ 1, _, _, _, hC, fun _ _ h => h, ?_⟩
    exact (hO.nilsl 9 1).pick_ [1, 0] (by decide)
  · simp only [if_neg hn] at hC ⊢
    refine (tags1_ bi B m c ts (dataL ++ r) w h8 (by omega) hts (by simp) (hC.at_ hw hi h0) hS hg hb0).mono ?_
    rintro en w1 ⟨r', rfl, T', ct', rfl, hT, B', m', c', _, hD, hO⟩
    exact ⟨_, rfl, T', ct', rfl, hT, _, _, _, hD _ _ hC, hD, hO⟩
end
theorem file_seq (ch dp rt : Int) (ts : List ByteArray) (d : List UInt8) : fileB ch dp rt ts d = riffL ++ (le ((bodyB ch dp rt ts d).length : Int) 4 ++ (waveL ++ formSeq ch dp rt (tagPart ts (dataL ++ (le (d.length : Int) 4 ++ (d ++ List.replicate (d.length % 2) 0)))))) := by
  have hf := formB_length ch dp rt
  unfold fileB
  rw [List.append_assoc]
  congr 2
  unfold bodyB headT headB tagPart partF
  rw [hf]
  by_cases hn : ts.length = 0
  · simp [hn, formB, List.append_assoc]
  · simp [hn, formB, List.append_assoc]
theorem body_len (ch dp rt : Int) (ts : List ByteArray) (d : List UInt8) : (fileB ch dp rt ts d).length = 8 + (bodyB ch dp rt ts d).length := by
  simp only [fileB, List.length_append, le_length]
  rfl
theorem glob_pos {w : World} (hg : Glob w) : 0 < w.heap.size := by
  obtain ⟨m, hm⟩ := hg
  simp only [World.cell?] at hm
  rcases Nat.eq_zero_or_pos w.heap.size with h | h
  · rw [Array.getElem?_eq_none (by omega)] at hm; cases hm
  · exact h
set_option maxHeartbeats 2000000 in
set_option maxRecDepth 20000 in
theorem look_ (ch dp rt : Int) (ts : List ByteArray) (d : List UInt8) (B : Option Addr) (c : Nat) (w : World) (hsh : 1 ≤ ch ∧ ch ≤ 2 ∧ 4 ≤ dp ∧ dp ≤ 24 ∧ 1 ≤ rt ∧ rt ≤ 655350) (h8 : ts.length ≤ 8) (hts : allTags ts = true) (hdm : (d.length : Int) % blk ch dp = 0) (hdq : (d.length : Int) / blk ch dp ≤ 4096) (hd : d.length ≤ 1000000)
    (hle : (fileB ch dp rt ts d).length ≤ c) (hmax : c ≤ 1000000000000) (hr : Rd w B (fileB ch dp rt ts d).length 1 (u8s (fileB ch dp rt ts d))) (hg : Glob w) :
    Calls Tryd.prog 17 #[.slice B (fileB ch dp rt ts d).length c] w fun en w1 => ∃ r, en = .returned r ∧ ∃ T' ct' D cD, r = .tuple #[.agg #[.int .i64 ch, .int .i64 dp, .int .i64 rt, .slice T' ts.length ct', .slice D d.length cD], .int .i64 0] ∧
      SlOk T' ts.length ct' 1 (strs ts) ∧ (∀ w', Rd w' B (fileB ch dp rt ts d).length 1 (u8s (fileB ch dp rt ts d)) → Rd w' D d.length 1 (u8s d)) ∧ d.length ≤ cD ∧ cD ≤ 1000000000000 ∧ Own w [] [sl T' ct' 9 1 (strs ts)] w1 := by
  have hbd := blk_bd (ch := ch) (dp := dp) (by omega) (by omega)
  have hfl := body_len ch dp rt ts d
  have hgp := glob_pos hg
  have hbl : (bodyB ch dp rt ts d).length ≤ 1000300 := by
    have hht : (headT ch dp rt ts).length ≤ 200 := by
      have h28 := headB_length ch dp rt
      have htl := tagB_length ts (fun t ht => isTagF_small (List.all_eq_true.1 hts t ht))
      unfold headT
      split
      · omega
      · rw [partF_length, h28]; show 28 + 4 + 4 + _ + _ ≤ _; omega
    rw [bodyB, partF_length]; show _ + 4 + 4 + _ + _ ≤ _; omega
  have hC0' : ∀ w', Rd w' B (fileB ch dp rt ts d).length 1 (u8s (fileB ch dp rt ts d)) → Cur w' [] B (fileB ch dp rt ts d).length c (riffL ++ (le ((bodyB ch dp rt ts d).length : Int) 4 ++ (waveL ++ formSeq ch dp rt (tagPart ts (dataL ++ (le (d.length : Int) 4 ++ (d ++ List.replicate (d.length % 2) 0))))))) := by
    intro w' hr'
    rw [← file_seq]
    exact ⟨rfl, hle, hmax, hr', fun _ _ _ => by simp⟩
  have hC0 := hC0' w hr
  have p4 : (256 : Int) ^ 4 = 4294967296 := by decide
  have hdc : ((d.length : Int) / blk ch dp) * blk ch dp = d.length := by have := Int.emod_add_mul_ediv (d.length : Int) (blk ch dp); rw [hdm, Int.mul_comm] at this; omega
  refine fn_enter (args := [_]) (F := []) Tryd.func17 rfl rfl rfl ?_
  refine x_seq ?_
  refine x_region ?_
  refine x_op rfl (s_alloc Ty.i48 rfl fun b2 hb2 => ?_)
  refine x_op rfl (x_val (r_assign rfl) rfl ?_)
  refine x_nil ?_
  refine x_seq ?_
  refine x_region ?_
  refine x_op rfl (x_val (r_move rfl) rfl ?_)
  refine x_op rfl (x_val (r_build Ty.i56 Ty.p56 rfl rfl) rfl ?_)
  refine x_op rfl (s_box rfl rfl fun b9 hb9 => ?_)
  refine x_op rfl (x_val (r_assign rfl) rfl ?_)
  refine x_nil ?_
  refine x_seq ?_
  refine x_region ?_
  refine x_op rfl (x_val (r_move rfl) rfl ?_)
  refine x_op rfl (s_call Ty.c30 rfl rfl (fun w hw => mustC hw (i := 0) rfl hC0 (by omega)) (fun wq v wq1 hw h => ?_))
  obtain ⟨rfl, B1, m1, c1, hC1, hD1, hO⟩ := h
  refine ⟨_, hw.swap_ [0] [1] (by decide) hO, ?_⟩
  refine x_nf (L' := [bl _ _ #[_, _], bl _ _ #[_, _, _, _, _]]) rfl ?_
  refine x_nil ?_
  refine x_seq ?_
  refine x_region ?_
  refine x_op rfl (x_val (r_move rfl) rfl ?_)
  refine x_op rfl (x_val (r_move rfl) rfl ?_)
  refine x_op rfl (x_val (r_len_slice Tryd.underlying31 rfl) rfl ?_)
  refine x_op rfl (x_val (r_sub rfl rfl ⟨by omega, by omega⟩) rfl ?_)
  refine x_op rfl (s_call Ty.c31 rfl rfl (fun w hw => wantC hw (i := 0) (k := 4) rfl hC1 (by have := hC1.len; simp only [List.length_append, le_length] at this; omega) (le_length _ 4) (by decide) (by rw [leV_zero _ 4 (by omega)]; omega)) (fun wq v wq1 hw h => ?_))
  obtain ⟨rfl, B2, m2, c2, hC2, hD2, hO⟩ := h
  refine ⟨_, hw.swap_ [0] [1] (by decide) hO, ?_⟩
  refine x_nf (L' := [bl _ _ #[_, _], bl _ _ #[_, _, _, _, _]]) rfl ?_
  refine x_nil ?_
  refine x_seq ?_
  refine x_region ?_
  refine x_op rfl (x_val (r_move rfl) rfl ?_)
  refine x_op rfl (s_call Ty.c30 rfl rfl (fun w hw => mustC hw (i := 0) rfl hC2 (by have := hC2.len; simp only [List.length_append, le_length] at this; omega)) (fun wq v wq1 hw h => ?_))
  obtain ⟨rfl, B3, m3, c3, hC3, hD3, hO⟩ := h
  refine ⟨_, hw.swap_ [0] [1] (by decide) hO, ?_⟩
  refine x_nf (L' := [bl _ _ #[_, _], bl _ _ #[_, _, _, _, _]]) rfl ?_
  refine x_nil ?_
  refine x_seq ?_
  refine x_region ?_
  refine x_op rfl (x_val (r_move rfl) rfl ?_)
  refine x_op rfl (s_call Ty.c32 rfl rfl (fun w hw => formC hw (i := 0) rfl hC3 hsh (by have := hC3.len; simp only [List.length_append, le_length] at this; omega)) (fun wq v wq1 hw h => ?_))
  obtain ⟨rfl, B4, m4, c4, hC4, hD4, hO⟩ := h
  refine ⟨_, hw.swap_ [0] [1] (by decide) hO, ?_⟩
  have hm4 : 0 < m4 := tagPart_pos hC4
  refine x_nf (L' := [bl _ _ #[_, _], bl _ _ #[_, _, _, _, _]]) rfl ?_
  refine x_op rfl (x_val (r_build Ty.i48 Ty.p48 rfl rfl) rfl ?_)
  refine x_op rfl (s_alloc Ty.i48 rfl fun b5 hb5 => ?_)
  refine x_op rfl (s_store (i := 0) Ty.z48 rfl rfl rfl rfl rfl rfl ?_)
  refine x_nf (L' := [bl _ _ #[_, _, _, _, _], bl _ _ #[_, _], bl _ _ #[_, _, _, _, _]]) rfl ?_
  refine x_nil ?_
  refine x_seq ?_
  refine x_seq ?_
  refine x_region ?_
  refine x_op rfl (x_val (r_move rfl) rfl ?_)
  refine x_op rfl (x_val (r_nilCheck rfl) rfl ?_)
  refine x_op rfl (x_val (r_fieldAddr Ty.q56_1 rfl) rfl ?_)
  refine x_op rfl (x_val (r_own_add (i := 1) Ty.z4 rfl rfl rfl) rfl ?_)
  refine x_op rfl (x_val (r_not rfl rfl) rfl ?_)
  refine x_nil ?_
  refine x_true rfl ?_
  refine x_region ?_
  refine x_op rfl (x_val (r_move rfl) rfl ?_)
  refine x_op rfl (s_call Ty.c33 rfl rfl (fun w hw => tagsC hw (i := 1) rfl hC4 h8 hts (hw.glob hg) (by simp; omega) hm4) (fun wq v wq1 hw h => ?_))
  obtain ⟨T1, ct1, rfl, hT1, B5, m5, c5, hC5, hD5, hO⟩ := h
  refine ⟨_, hw.swap_ [1] [0, 2] (by decide) hO, ?_⟩
  refine x_nf (L' := [bl _ _ #[_, _], _, bl _ _ #[_, _, _, _, _], bl _ _ #[_, _, _, _, _]]) rfl ?_
  refine x_op rfl (x_val (r_fieldAddr Ty.q48_1 rfl) rfl ?_)
  refine x_op rfl (s_store (i := 2) Ty.z24 rfl rfl rfl rfl rfl rfl ?_)
  refine x_nf (L' := [bl _ _ #[_, _], _, bl _ _ #[_, _, _, _, _], bl _ _ #[_, _, _, _, _]]) rfl ?_
  refine x_nil ?_
  refine x_seq ?_
  refine x_region ?_
  refine x_op rfl (x_val (r_move rfl) rfl ?_)
  refine x_op rfl (s_call Ty.c30 rfl rfl (fun w hw => mustC hw (i := 0) rfl hC5 (by have := hC5.len; rw [List.length_append, show dataL.length = 4 from rfl] at this; omega)) (fun wq v wq1 hw h => ?_))
  obtain ⟨rfl, B6, m6, c6, hC6, hD6, hO⟩ := h
  refine ⟨_, hw.swap_ [0] [1, 2, 3] (by decide) hO, ?_⟩
  refine x_nf (L' := [bl _ _ #[_, _], _, bl _ _ #[_, _, _, _, _], bl _ _ #[_, _, _, _, _]]) rfl ?_
  refine x_nil ?_
  refine x_seq ?_
  refine x_region ?_
  refine x_op rfl (x_val (r_move rfl) rfl ?_)
  refine x_op rfl (s_call Ty.c19 rfl rfl (fun w hw => numberL hw (i := 0) (n := (d.length : Int)) (k := 4) rfl hC6 (by omega) (by have := hC6.len; simp only [List.length_append, le_length] at this; omega) (by omega)) (fun wq v wq1 hw h => ?_))
  obtain ⟨rfl, B7, m7, c7, hC7, hD7, hO⟩ := h
  refine ⟨_, hw.swap_ [0] [1, 2, 3] (by decide) hO, ?_⟩
  refine x_nf (L' := [bl _ _ #[_, _], _, bl _ _ #[_, _, _, _, _], bl _ _ #[_, _, _, _, _]]) rfl ?_
  refine x_op rfl (x_val (r_assign rfl) rfl ?_)
  refine x_nil ?_
  refine x_seq ?_
  refine x_seq ?_
  refine x_region ?_
  refine x_op rfl (x_val (r_move rfl) rfl ?_)
  refine x_op rfl (x_val (r_nilCheck rfl) rfl ?_)
  refine x_op rfl (x_val (r_fieldAddr Ty.q56_1 rfl) rfl ?_)
  refine x_op rfl (x_val (r_own_add (i := 0) Ty.z4 rfl rfl rfl) rfl ?_)
  refine x_op rfl (x_val (r_move rfl) rfl ?_)
  refine x_op rfl (x_val (r_move rfl) rfl ?_)
  refine x_op rfl (x_val (r_fieldAddr Ty.q48_0 rfl) rfl ?_)
  refine x_op rfl (x_val (r_own_at (i := 2) Ty.z23 rfl rfl rfl rfl) rfl ?_)
  refine x_op rfl (s_call Ty.c21 rfl rfl (fun w hw => block_ ch dp rt w (by omega) (by omega) (by omega)) (fun wq v wq1 hw h => ?_))
  obtain ⟨rfl, hO⟩ := h
  refine ⟨_, hw.call0 hO, ?_⟩
  refine x_nf (L' := [bl _ _ #[_, _], _, bl _ _ #[_, _, _, _, _], bl _ _ #[_, _, _, _, _]]) rfl ?_
  refine x_op rfl (x_val (r_rem rfl rfl ⟨by omega, by omega, by omega⟩) rfl ?_)
  refine x_op rfl (x_val (r_neq (r := false) rfl rfl (by rw [hdm]; decide)) rfl ?_)
  refine x_op rfl (x_val (r_pick_f rfl rfl) rfl ?_)
  refine x_op rfl (x_val (r_move rfl) rfl ?_)
  refine x_op rfl (x_val (r_move rfl) rfl ?_)
  refine x_op rfl (x_val (r_fieldAddr Ty.q48_0 rfl) rfl ?_)
  refine x_op rfl (x_val (r_own_at (i := 2) Ty.z23 rfl rfl rfl rfl) rfl ?_)
  refine x_op rfl (s_call Ty.c21 rfl rfl (fun w hw => block_ ch dp rt w (by omega) (by omega) (by omega)) (fun wq v wq1 hw h => ?_))
  obtain ⟨rfl, hO⟩ := h
  refine ⟨_, hw.call0 hO, ?_⟩
  refine x_nf (L' := [bl _ _ #[_, _], _, bl _ _ #[_, _, _, _, _], bl _ _ #[_, _, _, _, _]]) rfl ?_
  refine x_op rfl (x_val (r_quo rfl rfl ⟨by omega, by omega, by omega⟩) rfl ?_)
  refine x_op rfl (x_val (r_gtr (r := false) rfl rfl (decide_eq_false (by omega))) rfl ?_)
  refine x_op rfl (x_val (r_pick_f rfl rfl) rfl ?_)
  refine x_nil ?_
  refine x_false rfl ?_
  refine x_skip ?_
  refine x_seq ?_
  refine x_region ?_
  refine x_op rfl (x_val (r_move rfl) rfl ?_)
  refine x_op rfl (x_val (r_move rfl) rfl ?_)
  refine x_op rfl (s_call Ty.c34 rfl rfl (fun w hw => takeC hw (i := 0) (x := d) rfl hC7) (fun wq v wq1 hw h => ?_))
  obtain ⟨rfl, B8, m8, c8, hC8, _, hO⟩ := h
  refine ⟨_, hw.swap_ [0] [1, 2, 3] (by decide) hO, ?_⟩
  refine x_nf (L' := [bl _ _ #[_, _], _, bl _ _ #[_, _, _, _, _], bl _ _ #[_, _, _, _, _]]) rfl ?_
  refine x_op rfl (x_val (r_fieldAddr Ty.q48_2 rfl) rfl ?_)
  refine x_op rfl (s_store (i := 2) Ty.z31 rfl rfl rfl rfl rfl rfl ?_)
  refine x_nf (L' := [bl _ _ #[_, _], _, bl _ _ #[_, _, _, _, _], bl _ _ #[_, _, _, _, _]]) rfl ?_
  refine x_nil ?_
  refine x_seq ?_
  refine x_region ?_
  refine x_op rfl (x_val (r_move rfl) rfl ?_)
  refine x_op rfl (x_val (r_move rfl) rfl ?_)
  refine x_op rfl (x_val (r_rem rfl rfl ⟨by omega, by omega, by omega⟩) rfl ?_)
  refine x_op rfl (s_call Ty.c34 rfl rfl (fun w hw => takeCn hw (i := 0) (n := d.length % 2) (x := List.replicate (d.length % 2) 0) (rest := []) rfl (by rw [List.append_nil]; exact hC8) (List.length_replicate ..)) (fun wq v wq1 hw h => ?_))
  obtain ⟨rfl, B9, m9, c9, hC9, _, hO⟩ := h
  refine ⟨_, hw.swap_ [0] [1, 2, 3] (by decide) hO, ?_⟩
  refine x_nf (L' := [bl _ _ #[_, _], _, bl _ _ #[_, _, _, _, _], bl _ _ #[_, _, _, _, _]]) rfl ?_
  refine x_nil ?_
  refine x_seq ?_
  refine x_seq ?_
  refine x_region ?_
  refine x_op rfl (x_val (r_move rfl) rfl ?_)
  refine x_op rfl (x_val (r_nilCheck rfl) rfl ?_)
  refine x_op rfl (x_val (r_fieldAddr Ty.q56_1 rfl) rfl ?_)
  refine x_op rfl (x_val (r_own_add (i := 0) Ty.z4 rfl rfl rfl) rfl ?_)
  refine x_op rfl (x_val (r_move rfl) rfl ?_)
  refine x_op rfl (x_val (r_move rfl) rfl ?_)
  refine x_op rfl (x_val (r_nilCheck rfl) rfl ?_)
  refine x_op rfl (x_val (r_fieldAddr Ty.q56_0 rfl) rfl ?_)
  refine x_op rfl (x_val (r_own_add (i := 0) Ty.z31 rfl rfl rfl) rfl ?_)
  refine x_op rfl (x_val (r_len_slice Tryd.underlying31 rfl) rfl ?_)
  refine x_op rfl (x_val (r_gtr (r := false) rfl rfl (decide_eq_false (by have := hC9.len; simp at this; omega))) rfl ?_)
  refine x_op rfl (x_val (r_pick_f rfl rfl) rfl ?_)
  refine x_nil ?_
  refine x_false rfl ?_
  refine x_skip ?_
  refine x_seq ?_
  refine x_region ?_
  refine x_op rfl (x_val (r_ownN (i := 2) Ty.z48 rfl rfl rfl) rfl ?_)
  refine x_op rfl (s_store (i := 3) Ty.z48 rfl rfl rfl rfl rfl rfl ?_)
  refine x_nf (L' := [bl _ _ #[_, _], _, bl _ _ #[_, _, _, _, _], bl _ _ #[_, _, _, _, _]]) rfl ?_
  refine x_op rfl (x_val (r_assign rfl) rfl ?_)
  refine x_nil ?_
  refine x_ret ?_
  -- path 
  exact x_rets (rs := []) (vs := []) rfl ⟨res_own (i := 3) (cs := [.int .i64 ch, .int .i64 dp, .int .i64 rt, .slice T1 ts.length ct1, .slice B7 d.length c7]) rfl rfl Ty.z48 rfl, rfl, trivial⟩ fun w1 hO => ⟨_, rfl, T1, ct1, B7, c7, rfl, hT1, fun w' hr' => (hD7 _ _ (hD6 _ _ (hD5 _ _ (hD4 _ _ (hD3 _ _ (hD2 _ _ (hD1 _ _ (hC0' w' hr')))))))).head, by have h1 := hC7.len; have h2 := hC7.le; rw [List.length_append] at h1; omega, hC7.max, hO.pick_ [1] (by decide)⟩
end Go.Proofs.YtlpoepmipbegaaaDoor.Wv
