/- The wav package: a whole file's bytes, and how many samples it has. -/
import Derived.Test.YtlpoepmipbegaaaDoorV3
set_option linter.unusedVariables false
set_option linter.unusedSimpArgs false
namespace Go.Proofs.YtlpoepmipbegaaaDoor.Wv
open Go Go.RowKit Go.Proofs.YtlpoepmipbegaaaDoor.En
def tagB : List ByteArray → List UInt8
  | [] => []
  | t :: r => UInt8.ofNat t.size :: t.data.toList ++ tagB r
theorem tagB_append : ∀ a b : List ByteArray, tagB (a ++ b) = tagB a ++ tagB b
  | [], b => rfl
  | t :: a, b => by simp [tagB, tagB_append a b]
theorem tagB_take {ts : List ByteArray} {i : Nat} {t : ByteArray} (h : ts[i]? = some t) : tagB (ts.take (i + 1)) = tagB (ts.take i) ++ [UInt8.ofNat t.size] ++ t.data.toList := by
  rw [List.take_add_one, h, tagB_append]
  simp [tagB]
theorem tagB_length : ∀ ts : List ByteArray, (∀ t ∈ ts, t.size ≤ 12) → (tagB ts).length ≤ 13 * ts.length
  | [], _ => by simp [tagB]
  | t :: r, h => by
    have h1 := tagB_length r (fun x hx => h x (List.mem_cons_of_mem _ hx))
    have h2 := h t (List.mem_cons_self ..)
    have h3 : t.data.toList.length = t.size := Array.length_toList
    simp only [tagB, List.length_append, List.length_cons]
    omega
def formB (ch dp rt : Int) : List UInt8 := [] ++ le 1 2 ++ le ch 2 ++ le rt 4 ++ le (rt * blk ch dp) 4 ++ le (blk ch dp) 2 ++ le dp 2
theorem formB_length (ch dp rt : Int) : (formB ch dp rt).length = 16 := by simp [formB, le_length]
abbrev waveL : List UInt8 := [87, 65, 86, 69]
abbrev riffL : List UInt8 := [82, 73, 70, 70]
abbrev formM : ByteArray := ⟨#[102, 109, 116, 32]⟩
abbrev tagsM : ByteArray := ⟨#[116, 97, 103, 115]⟩
abbrev dataM : ByteArray := ⟨#[100, 97, 116, 97]⟩
def headB (ch dp rt : Int) : List UInt8 := partF waveL formM.data.toList (formB ch dp rt)
def headT (ch dp rt : Int) (ts : List ByteArray) : List UInt8 := if ts.length = 0 then headB ch dp rt else partF (headB ch dp rt) tagsM.data.toList (tagB ts)
def bodyB (ch dp rt : Int) (ts : List ByteArray) (d : List UInt8) : List UInt8 := partF (headT ch dp rt ts) dataM.data.toList d
def fileB (ch dp rt : Int) (ts : List ByteArray) (d : List UInt8) : List UInt8 := riffL ++ le (bodyB ch dp rt ts d).length 4 ++ bodyB ch dp rt ts d
theorem partF_length (l m z : List UInt8) : (partF l m z).length = l.length + m.length + 4 + z.length + z.length % 2 := by simp only [partF, List.length_append, le_length, List.length_replicate]
theorem headB_length (ch dp rt : Int) : (headB ch dp rt).length = 28 := by rw [headB, partF_length, formB_length]; rfl
def strs (ts : List ByteArray) : List Value := ts.map .string
theorem strs_get {ts : List ByteArray} {i : Nat} {t : ByteArray} (h : ts[i]? = some t) : (strs ts)[i * 1 + 0]? = some (.string t) := by simp [strs, h]
theorem u8_nat (k : Nat) : IntKind.u8.wrap (k : Int) = ((UInt8.ofNat k).toNat : Int) := (IntKind.wrap_u8 _).trans (by simp)
set_option maxRecDepth 20000 in
theorem count_ (ch dp rt : Int) (ts : Value) (D : Option Addr) (m c : Nat) (w : World) (h1 : 1 ≤ ch ∧ ch ≤ 2) (h2 : 4 ≤ dp ∧ dp ≤ 24) (hb : 1 ≤ blk ch dp ∧ blk ch dp ≤ 6) (hm : m ≤ 1000000000) (hts : ts.cells = #[ts]) :
    Calls Tryd.prog 18 #[.agg #[.int .i64 ch, .int .i64 dp, .int .i64 rt, ts, .slice D m c]] w fun en w1 => ∃ r, en = .returned r ∧ (r = .int .i64 ((m : Int) / blk ch dp) ∧ Own w [] [] w1) := by
  refine fn_enter (args := [_]) (F := []) Tryd.func18 rfl rfl rfl ?_
  refine x_seq ?_
  refine x_region ?_
  refine x_op rfl (s_box rfl rfl fun b1 hb1 => ?_)
  refine x_op rfl (x_val (r_assign rfl) rfl ?_)
  refine x_nil ?_
  refine x_seq ?_
  refine x_textP [0] (by kernel_rfl) (by decide) ?_
  refine x_tk rfl (r_fieldAddr Ty.q48_2 rfl) rfl (fun _ h => h.pick_ [0] (by decide)) ?_
  refine x_tk rfl (r_own_add (i := 0) Ty.z31 rfl rfl rfl) rfl (fun _ h => h.pick_ [0] (by decide)) ?_
  refine x_tk rfl (r_len_slice Tryd.underlying31 rfl) rfl (fun _ h => h.pick_ [0] (by decide)) ?_
  refine x_tk rfl (r_fieldAddr Ty.q48_0 rfl) rfl (fun _ h => h.pick_ [0] (by decide)) ?_
  refine x_tk rfl (r_own_at (i := 0) Ty.z23 rfl rfl rfl rfl) rfl (fun _ h => h.pick_ [0] (by decide)) ?_
  refine x_tany ?_
  refine x_all [5] (by kernel_rfl) ⟨?_, trivial⟩
  refine x_do rfl rfl (s_call Ty.c21 rfl rfl (fun w hw => block_ ch dp rt w (by omega) (by omega) (by omega)) (fun wq v wq1 hw h => ?_))
  obtain ⟨rfl, hO⟩ := h
  refine ⟨_, hw.call0 hO, x_and (fun _ h => h.pick_ [0] (by decide)) ?_⟩
  refine x_nf (L' := [bl _ _ #[_, _, _, _, _]]) rfl ?_
  refine x_take 6 rfl (by kernel_rfl) rfl (r_quo rfl rfl ⟨by omega, by omega, by omega⟩) rfl (fun _ h => h.pick_ [0] (by decide)) ?_
  refine x_take 7 rfl (by kernel_rfl) rfl (r_assign rfl) rfl (fun _ h => h.pick_ [0] (by decide)) ?_
  refine x_done (by kernel_rfl) ?_
  refine x_ret ?_
  -- path 
  exact x_ret1 rfl rfl fun w1 hO => ⟨_, rfl, rfl, hO.none_⟩
set_option maxHeartbeats 1000000 in
set_option maxRecDepth 20000 in
theorem file_ (ch dp rt : Int) (T D : Option Addr) (ct m c : Nat) (ts : List ByteArray) (d : List UInt8) (w : World) (h1 : 1 ≤ ch ∧ ch ≤ 2) (h2 : 4 ≤ dp ∧ dp ≤ 24) (h3 : 1 ≤ rt ∧ rt ≤ 655350) (hb : 1 ≤ blk ch dp ∧ blk ch dp ≤ 6) (hrb : 1 ≤ rt * blk ch dp ∧ rt * blk ch dp ≤ 10000000)
    (ht1 : ts.length ≤ 8) (ht2 : ∀ t ∈ ts, t.size ≤ 12) (hd : d.length ≤ 1000000) (hT : Rd w T ts.length 1 (strs ts)) (hD : Rd w D d.length 1 (u8s d)) :
    Calls Tryd.prog 16 #[.agg #[.int .i64 ch, .int .i64 dp, .int .i64 rt, .slice T ts.length ct, .slice D d.length c]] w fun en w1 => ∃ r, en = .returned r ∧ ∃ A' cap', r = .slice A' (fileB ch dp rt ts d).length cap' ∧ BOk A' cap' (fileB ch dp rt ts d) ∧ Own w [] [SB 5 A' cap' (fileB ch dp rt ts d)] w1 := by
  refine fn_enter (args := [_]) (F := []) Tryd.func16 rfl rfl rfl ?_
  refine x_seq ?_
  refine x_region ?_
  refine x_op rfl (s_box rfl rfl fun b1 hb1 => ?_)
  refine x_op rfl (x_val (r_assign rfl) rfl ?_)
  refine x_nil ?_
  refine x_seq ?_
  refine x_heap (L' := sl none 0 5 1 [] :: _) (fun w hO => hO.nilsl 5 1) ?_
  refine x_textP [1] (by kernel_rfl) (by decide) ?_
  refine x_tany ?_
  refine x_take 1 rfl (by kernel_rfl) rfl (r_fieldAddr Ty.q48_0 rfl) rfl (fun _ h => h.pick_ [1] (by decide)) ?_
  refine x_take 2 rfl (by kernel_rfl) rfl (r_fieldAddr Ty.q23_0 rfl) rfl (fun _ h => h.pick_ [1] (by decide)) ?_
  refine x_take 3 rfl (by kernel_rfl) rfl (r_own_add (i := 0) Ty.z3 rfl rfl rfl) rfl (fun _ h => h.pick_ [1] (by decide)) ?_
  refine x_all [0] (by kernel_rfl) ⟨?_, trivial⟩
  refine x_do rfl rfl (s_call Ty.c15 rfl rfl (fun w hw => low_ none 0 [] 1 2 w (SlOk.nil_ 1) (hw.sub_ [0] (by decide)) (by simp) (by omega)) (fun wq v wq1 hw h => ?_))
  obtain ⟨A1, c1, rfl, hk1, hO⟩ := h
  refine ⟨_, hw.swap_ [0] [1] (by decide) hO, x_and (fun _ h => h.pick_ [1] (by decide)) ?_⟩
  refine x_nf (L' := [_, bl _ _ #[_, _, _, _, _]]) rfl ?_
  refine x_all [4] (by kernel_rfl) ⟨?_, trivial⟩
  refine x_do rfl rfl (s_call Ty.c15 rfl rfl (fun w hw => low_ A1 c1 ([] ++ le 1 2) ch 2 w hk1 (hw.sub_ [0] (by decide)) (by simp [le_length]) (by omega)) (fun wq v wq1 hw h => ?_))
  obtain ⟨A2, c2, rfl, hk2, hO⟩ := h
  refine ⟨_, hw.swap_ [0] [1] (by decide) hO, x_and (fun _ h => h.pick_ [1] (by decide)) ?_⟩
  refine x_nf (L' := [_, bl _ _ #[_, _, _, _, _]]) rfl ?_
  refine x_take 5 rfl (by kernel_rfl) rfl (r_assign rfl) rfl (fun _ h => h.pick_ [1] (by decide)) ?_
  refine x_done (by kernel_rfl) ?_
  refine x_seq ?_
  refine x_textP [1] (by kernel_rfl) (by decide) ?_
  refine x_tk rfl (r_move rfl) rfl (fun _ h => h.pick_ [1] (by decide)) ?_
  refine x_tk rfl (r_fieldAddr Ty.q48_0 rfl) rfl (fun _ h => h.pick_ [1] (by decide)) ?_
  refine x_tk rfl (r_fieldAddr Ty.q23_2 rfl) rfl (fun _ h => h.pick_ [1] (by decide)) ?_
  refine x_tk rfl (r_own_add (i := 0) Ty.z3 rfl rfl rfl) rfl (fun _ h => h.pick_ [1] (by decide)) ?_
  refine x_tany ?_
  refine x_take 5 rfl (by kernel_rfl) rfl (r_fieldAddr Ty.q48_0 rfl) rfl (fun _ h => h.pick_ [1] (by decide)) ?_
  refine x_take 6 rfl (by kernel_rfl) rfl (r_fieldAddr Ty.q23_2 rfl) rfl (fun _ h => h.pick_ [1] (by decide)) ?_
  refine x_take 7 rfl (by kernel_rfl) rfl (r_own_add (i := 0) Ty.z3 rfl rfl rfl) rfl (fun _ h => h.pick_ [1] (by decide)) ?_
  refine x_take 8 rfl (by kernel_rfl) rfl (r_fieldAddr Ty.q48_0 rfl) rfl (fun _ h => h.pick_ [1] (by decide)) ?_
  refine x_take 9 rfl (by kernel_rfl) rfl (r_own_at (i := 0) Ty.z23 rfl rfl rfl rfl) rfl (fun _ h => h.pick_ [1] (by decide)) ?_
  refine x_all [4] (by kernel_rfl) ⟨?_, trivial⟩
  refine x_do rfl rfl (s_call Ty.c15 rfl rfl (fun w hw => low_ A2 c2 ([] ++ le 1 2 ++ le ch 2) rt 4 w hk2 (hw.sub_ [0] (by decide)) (by simp [le_length]) (by omega)) (fun wq v wq1 hw h => ?_))
  obtain ⟨A3, c3, rfl, hk3, hO⟩ := h
  refine ⟨_, hw.swap_ [0] [1] (by decide) hO, x_and (fun _ h => h.pick_ [1] (by decide)) ?_⟩
  refine x_nf (L' := [_, bl _ _ #[_, _, _, _, _]]) rfl ?_
  refine x_all [10] (by kernel_rfl) ⟨?_, trivial⟩
  refine x_do rfl rfl (s_call Ty.c21 rfl rfl (fun w hw => block_ ch dp rt w (by omega) (by omega) (by omega)) (fun wq v wq1 hw h => ?_))
  obtain ⟨rfl, hO⟩ := h
  refine ⟨_, hw.call0 hO, x_and (fun _ h => h.pick_ [1] (by decide)) ?_⟩
  refine x_nf (L' := [_, bl _ _ #[_, _, _, _, _]]) rfl ?_
  refine x_take 11 rfl (by kernel_rfl) rfl (r_mul rfl rfl ⟨by omega, by omega⟩) rfl (fun _ h => h.pick_ [1] (by decide)) ?_
  refine x_all [12] (by kernel_rfl) ⟨?_, trivial⟩
  refine x_do rfl rfl (s_call Ty.c15 rfl rfl (fun w hw => low_ A3 c3 ([] ++ le 1 2 ++ le ch 2 ++ le rt 4) (rt * blk ch dp) 4 w hk3 (hw.sub_ [0] (by decide)) (by simp [le_length]) (by omega)) (fun wq v wq1 hw h => ?_))
  obtain ⟨A4, c4, rfl, hk4, hO⟩ := h
  refine ⟨_, hw.swap_ [0] [1] (by decide) hO, x_and (fun _ h => h.pick_ [1] (by decide)) ?_⟩
  refine x_nf (L' := [_, bl _ _ #[_, _, _, _, _]]) rfl ?_
  refine x_take 13 rfl (by kernel_rfl) rfl (r_assign rfl) rfl (fun _ h => h.pick_ [1] (by decide)) ?_
  refine x_done (by kernel_rfl) ?_
  refine x_seq ?_
  refine x_textP [1] (by kernel_rfl) (by decide) ?_
  refine x_tk rfl (r_move rfl) rfl (fun _ h => h.pick_ [1] (by decide)) ?_
  refine x_tk rfl (r_fieldAddr Ty.q48_0 rfl) rfl (fun _ h => h.pick_ [1] (by decide)) ?_
  refine x_tk rfl (r_own_at (i := 0) Ty.z23 rfl rfl rfl rfl) rfl (fun _ h => h.pick_ [1] (by decide)) ?_
  refine x_tany ?_
  refine x_take 5 rfl (by kernel_rfl) rfl (r_fieldAddr Ty.q48_0 rfl) rfl (fun _ h => h.pick_ [1] (by decide)) ?_
  refine x_take 6 rfl (by kernel_rfl) rfl (r_fieldAddr Ty.q23_1 rfl) rfl (fun _ h => h.pick_ [1] (by decide)) ?_
  refine x_take 7 rfl (by kernel_rfl) rfl (r_own_add (i := 0) Ty.z3 rfl rfl rfl) rfl (fun _ h => h.pick_ [1] (by decide)) ?_
  refine x_all [3] (by kernel_rfl) ⟨?_, trivial⟩
  refine x_do rfl rfl (s_call Ty.c21 rfl rfl (fun w hw => block_ ch dp rt w (by omega) (by omega) (by omega)) (fun wq v wq1 hw h => ?_))
  obtain ⟨rfl, hO⟩ := h
  refine ⟨_, hw.call0 hO, x_and (fun _ h => h.pick_ [1] (by decide)) ?_⟩
  refine x_nf (L' := [_, bl _ _ #[_, _, _, _, _]]) rfl ?_
  refine x_all [4] (by kernel_rfl) ⟨?_, trivial⟩
  refine x_do rfl rfl (s_call Ty.c15 rfl rfl (fun w hw => low_ A4 c4 ([] ++ le 1 2 ++ le ch 2 ++ le rt 4 ++ le (rt * blk ch dp) 4) (blk ch dp) 2 w hk4 (hw.sub_ [0] (by decide)) (by simp [le_length]) (by omega)) (fun wq v wq1 hw h => ?_))
  obtain ⟨A5, c5, rfl, hk5, hO⟩ := h
  refine ⟨_, hw.swap_ [0] [1] (by decide) hO, x_and (fun _ h => h.pick_ [1] (by decide)) ?_⟩
  refine x_nf (L' := [_, bl _ _ #[_, _, _, _, _]]) rfl ?_
  refine x_all [8] (by kernel_rfl) ⟨?_, trivial⟩
  refine x_do rfl rfl (s_call Ty.c15 rfl rfl (fun w hw => low_ A5 c5 ([] ++ le 1 2 ++ le ch 2 ++ le rt 4 ++ le (rt * blk ch dp) 4 ++ le (blk ch dp) 2) dp 2 w hk5 (hw.sub_ [0] (by decide)) (by simp [le_length]) (by omega)) (fun wq v wq1 hw h => ?_))
  obtain ⟨A6, c6, rfl, hk6, hO⟩ := h
  refine ⟨_, hw.swap_ [0] [1] (by decide) hO, x_and (fun _ h => h.pick_ [1] (by decide)) ?_⟩
  refine x_nf (L' := [_, bl _ _ #[_, _, _, _, _]]) rfl ?_
  refine x_take 9 rfl (by kernel_rfl) rfl (r_assign rfl) rfl (fun _ h => h.pick_ [1] (by decide)) ?_
  refine x_done (by kernel_rfl) ?_
  refine x_seq ?_
  refine x_region ?_
  refine x_op rfl (s_buildSlice Tryd.underlying31 Ty.i5 rfl rfl rfl rfl fun b35 hb35 => ?_)
  refine x_op rfl (s_stringish (l := waveL) (i := 0) Tryd.underlying31 Tryd.underlying5 rfl rfl rfl (?_))
  refine x_op rfl (x_val (r_move rfl) rfl ?_)
  refine x_op rfl (s_call Ty.c29 rfl rfl (fun w hw => part2_ (me b35) waveL formM A6 c6 (formB ch dp rt) w (by decide) (by decide) (hw.rd_ro (i := 0) rfl (by simp [maxLen])) (hw.rd_sl (i := 1) rfl hk6) (by rw [formB_length]; decide)) (fun wq v wq1 hw h => ?_))
  have h28 := headB_length ch dp rt
  obtain ⟨B1, d1, rfl, hB1, hO⟩ := h
  refine ⟨_, hw.call0 hO, ?_⟩
  refine x_nf (L' := [_, _, _, bl _ _ #[_, _, _, _, _]]) rfl ?_
  refine x_op rfl (x_val (r_assign rfl) rfl ?_)
  refine x_nil ?_
  refine x_seq ?_
  refine x_seq ?_
  refine x_region ?_
  refine x_op rfl (x_val (r_fieldAddr Ty.q48_1 rfl) rfl ?_)
  refine x_op rfl (x_val (r_own_add (i := 3) Ty.z24 rfl rfl rfl) rfl ?_)
  refine x_op rfl (x_val (r_len_slice Tryd.underlying24 rfl) rfl ?_)
  refine x_op rfl (x_val (r_gtr rfl rfl rfl) rfl (x_dec (fun h42 => ?_) (fun h42 => ?_)))
  · refine x_nil ?_
    refine x_true rfl ?_
    refine x_seq ?_
    refine x_region ?_
    refine x_op rfl (x_val (r_assign rfl) rfl ?_)
    refine x_nil ?_
    refine x_seq ?_
    refine x_seq ?_
    refine x_heap (L' := sl none 0 5 1 [] :: _) (fun w hO => hO.nilsl 5 1) ?_
    refine x_region ?_
    refine x_op rfl (x_val (r_fieldAddr Ty.q48_1 rfl) rfl ?_)
    refine x_op rfl (x_val (r_own_add (i := 4) Ty.z24 rfl rfl rfl) rfl ?_)
    refine x_op rfl (x_val (r_len_slice Tryd.underlying24 rfl) rfl ?_)
    refine x_op rfl (x_val (r_move rfl) rfl ?_)
    refine x_nil ?_
    refine x_block ?_
    refine x_loopP (σ := Nat × Option Addr × Nat) [1, 4, 44, 45] [1, 2, 3, 4] (fun s => [(5, .slice s.2.1 (tagB (ts.take s.1)).length s.2.2), (46, .int .i64 s.1)]) (fun s => [SB 5 s.2.1 s.2.2 (tagB (ts.take s.1))]) (fun s => s.1 ≤ ts.length ∧ BOk s.2.1 s.2.2 (tagB (ts.take s.1))) (fun s => ts.length - s.1) ((0, none, 0)) (by repeat (first | exact trivial | refine ⟨rfl, ?_⟩)) (fun _ h => h.pick_ [0, 1, 2, 3, 4] (by decide)) ⟨Nat.zero_le _, SlOk.nil_ 1⟩ ?_
    rintro ⟨i, C1, e1⟩ ⟨hi, hC1⟩; simp only [] at hi hC1 ⊢
    refine x_nfe (e' := [_, _, _, _, _, _]) (L' := [_, _, _, _, bl _ _ #[_, _, _, _, _]]) rfl rfl ?_
    refine x_seq ?_
    refine x_region ?_
    refine x_op rfl (x_val (r_lss rfl rfl rfl) rfl (x_dec (fun h47 => ?_) (fun h47 => ?_)))
    · refine x_nil ?_
      refine x_seq ?_
      refine x_true rfl ?_
      refine x_skip ?_
      refine x_seq ?_
      refine x_block ?_
      refine x_seq ?_
      refine x_region ?_
      have hlt : i < ts.length := by omega
      have ht : ts[i]? = some (ts[i]'hlt) := List.getElem?_eq_getElem hlt
      generalize ts[i]'hlt = t at ht
      have ht12 := ht2 t (List.mem_of_getElem? ht)
      have hts : t.data.toList.length = t.size := Array.length_toList
      have htl : (tagB (ts.take i)).length ≤ 104 := by
        have h9 := tagB_length (ts.take i) (fun x hx => ht2 x (List.mem_of_mem_take hx))
        rw [List.length_take] at h9
        omega
      obtain ⟨ad, rfl⟩ := hT.some_ (by omega)
      refine x_op rfl (x_val (r_indexAddr Tryd.underlying24 Ty.i9 rfl rfl ⟨by omega, by omega⟩) rfl ?_)
      refine x_op rfl (x_val (r_load1 (v := .string t) Ty.z9 rfl (fun w hS => (hS.rd0 hT).cell_ (k := i) (j := 0) hlt (by omega) rfl (strs_get ht))) rfl ?_)
      refine x_op rfl (x_val (r_assign rfl) rfl ?_)
      refine x_nil ?_
      refine x_region ?_
      refine x_op rfl (x_val (r_move rfl) rfl ?_)
      refine x_op rfl (x_val (r_move rfl) rfl ?_)
      refine x_op rfl (x_val (r_len_string Tryd.underlying9 rfl) rfl ?_)
      refine x_op rfl (x_val (r_conv_int Tryd.underlying3 Tryd.underlying5 rfl (u8_nat t.size)) rfl ?_)
      refine x_op rfl (s_buildSlice Tryd.underlying31 Ty.i5 rfl rfl rfl rfl fun b54 hb54 => ?_)
      refine x_op rfl (s_appB (i := 1) (l := tagB (ts.take i)) (z := [UInt8.ofNat t.size]) Tryd.underlying31 Ty.i5 rfl rfl rfl rfl hC1 (fun w hO => hO.rd_bl (i := 0) rfl rfl (by simp [maxLen]) rfl) (by simp only [List.length_singleton]; omega) fun C2 e2 hC2 => ?_)
      refine x_op rfl (x_val (r_move rfl) rfl ?_)
      refine x_op rfl (s_appS (i := 1) (l := tagB (ts.take i) ++ [UInt8.ofNat t.size]) Tryd.underlying31 Tryd.underlying9 Ty.i5 rfl rfl rfl rfl hC2 (by simp only [List.length_append, List.length_singleton]; omega) fun C3 e3 hC3 => ?_)
      refine x_op rfl (x_val (r_assign rfl) rfl ?_)
      refine x_nil ?_
      refine x_region ?_
      refine x_op rfl (x_val (r_add rfl rfl ⟨by omega, by omega⟩) rfl ?_)
      refine x_op rfl (x_val (r_move rfl) rfl ?_)
      refine x_nil ?_
      have ee := tagB_take ht
      refine x_again (s := (i, C1, e1)) ((i + 1, C3, e3)) (by simp only [ee]; repeat (first | exact trivial | refine ⟨rfl, ?_⟩)) (fun _ h => by simp only [ee]; exact h.pick_ [1, 2, 3, 4, 5] (by decide)) ⟨by omega, by simp only [ee]; exact hC3⟩ (by simp only []; omega)
    · refine x_nil ?_
      refine x_seq ?_
      refine x_false rfl ?_
      refine x_exit rfl ?_
      have hil : i = ts.length := by omega
      subst hil
      simp only [List.take_length] at hC1 ⊢
      have htl : (tagB ts).length ≤ 104 := by have h9 := tagB_length ts ht2; omega
      refine x_region ?_
      refine x_op rfl (x_val (r_move rfl) rfl ?_)
      refine x_op rfl (x_val (r_move rfl) rfl ?_)
      refine x_op rfl (s_call Ty.c29 rfl rfl (fun w hw => part_ B1 d1 (headB ch dp rt) tagsM C1 e1 (tagB ts) w hB1 (hw.sub_ [1] (by decide)) (hw.rd_sl (i := 0) rfl hC1) (fun _ => hw.sl_apart (i := 1) (j := 0) rfl rfl (by decide)) (by rw [h28]; show 28 + 4 + _ ≤ _; omega)) (fun wq v wq1 hw h => ?_))
      obtain ⟨B2, d2, rfl, hB2, hO⟩ := h
      refine ⟨_, hw.swap_ [1] [0, 2, 3, 4] (by decide) hO, ?_⟩
      refine x_nf (L' := [_, _, _, _, bl _ _ #[_, _, _, _, _]]) rfl ?_
      refine x_op rfl (x_val (r_assign rfl) rfl ?_)
      refine x_nil ?_
      refine x_seq ?_
      have hht : partF (headB ch dp rt) tagsM.data.toList (tagB ts) = headT ch dp rt ts := by unfold headT; rw [if_neg (by omega)]
      have hhl : (headT ch dp rt ts).length ≤ 200 := by rw [← hht, partF_length, h28]; show 28 + 4 + 4 + _ + _ ≤ _; omega
      have hB2' : BOk B2 d2 (headT ch dp rt ts) := by rw [← hht]; exact hB2
      simp only [hht]
      refine x_region ?_
      refine x_op rfl (x_val (r_move rfl) rfl ?_)
      refine x_op rfl (x_val (r_fieldAddr Ty.q48_2 rfl) rfl ?_)
      refine x_op rfl (x_val (r_own_add (i := 4) Ty.z31 rfl rfl rfl) rfl ?_)
      refine x_op rfl (s_call Ty.c29 rfl rfl (fun w hw => part_ B2 d2 (headT ch dp rt ts) dataM D c d w hB2' (hw.sub_ [0] (by decide)) (hw.rd0 hD) (hw.old_apart (i := 0) rfl hD) (by show _ + 4 + _ ≤ _; omega)) (fun wq v wq1 hw h => ?_))
      have hbl : (bodyB ch dp rt ts d).length ≤ 1000300 := by rw [bodyB, partF_length]; show _ + 4 + 4 + _ + _ ≤ _; omega
      obtain ⟨B3, d3, rfl, hB3, hO⟩ := h
      refine ⟨_, hw.swap_ [0] [1, 2, 3, 4] (by decide) hO, ?_⟩
      refine x_nf (L' := [_, _, _, _, bl _ _ #[_, _, _, _, _]]) rfl ?_
      refine x_op rfl (x_val (r_assign rfl) rfl ?_)
      refine x_nil ?_
      refine x_seq ?_
      refine x_region ?_
      refine x_op rfl (s_buildSlice Tryd.underlying31 Ty.i5 rfl rfl rfl rfl fun b66 hb66 => ?_)
      refine x_op rfl (s_stringish (l := riffL) (i := 0) Tryd.underlying31 Tryd.underlying5 rfl rfl rfl (?_))
      refine x_op rfl (x_val (r_move rfl) rfl ?_)
      refine x_op rfl (x_val (r_len_slice Tryd.underlying31 rfl) rfl ?_)
      refine x_op rfl (s_call Ty.c15 rfl rfl (fun w hw => low2_ (me b66) riffL (bodyB ch dp rt ts d).length 4 w (by decide) (hw.rd_ro (i := 0) rfl (by simp [maxLen])) (by decide) (by decide) (by decide)) (fun wq v wq1 hw h => ?_))
      obtain ⟨R1, r1, rfl, hR1, hO⟩ := h
      refine ⟨_, hw.call0 hO, ?_⟩
      refine x_nf (L' := [_, _, _, _, _, _, bl _ _ #[_, _, _, _, _]]) rfl ?_
      refine x_op rfl (x_val (r_move rfl) rfl ?_)
      refine x_op rfl (s_appB (i := 0) (z := bodyB ch dp rt ts d) Tryd.underlying31 Ty.i5 rfl rfl rfl rfl hR1 (fun w hO => hO.rd_sl (i := 2) rfl hB3) (by simp only [List.length_append, le_length]; show 4 + 4 + _ ≤ _; omega) fun R2 r2 hR2 => ?_)
      refine x_op rfl (x_val (r_assign rfl) rfl ?_)
      refine x_nil ?_
      refine x_ret ?_
      -- path TF
      exact x_ret1 rfl rfl fun w1 hO => ⟨_, rfl, R2, r2, rfl, hR2, hO.pick_ [0] (by decide)⟩
  · refine x_nil ?_
    refine x_false rfl ?_
    refine x_skip ?_
    refine x_seq ?_
    have hht : headB ch dp rt = headT ch dp rt ts := by unfold headT; rw [if_pos (by omega)]
    have hhl : (headT ch dp rt ts).length ≤ 200 := by rw [← hht, h28]; decide
    obtain ⟨B2, hB2e⟩ : ∃ x, x = B1 := ⟨_, rfl⟩
    obtain ⟨d2, hd2e⟩ : ∃ x, x = d1 := ⟨_, rfl⟩
    subst hB2e; subst hd2e
    have hB2' : BOk B2 d2 (headT ch dp rt ts) := by rw [← hht]; exact hB1
    show At _ w [] _ _ _
    rw [show partF waveL formM.data.toList (formB ch dp rt) = headT ch dp rt ts from hht]
    refine x_region ?_
    refine x_op rfl (x_val (r_move rfl) rfl ?_)
    refine x_op rfl (x_val (r_fieldAddr Ty.q48_2 rfl) rfl ?_)
    refine x_op rfl (x_val (r_own_add (i := 3) Ty.z31 rfl rfl rfl) rfl ?_)
    refine x_op rfl (s_call Ty.c29 rfl rfl (fun w hw => part_ B2 d2 (headT ch dp rt ts) dataM D c d w hB2' (hw.sub_ [0] (by decide)) (hw.rd0 hD) (hw.old_apart (i := 0) rfl hD) (by show _ + 4 + _ ≤ _; omega)) (fun wq v wq1 hw h => ?_))
    have hbl : (bodyB ch dp rt ts d).length ≤ 1000300 := by rw [bodyB, partF_length]; show _ + 4 + 4 + _ + _ ≤ _; omega
    obtain ⟨B3, d3, rfl, hB3, hO⟩ := h
    refine ⟨_, hw.swap_ [0] [1, 2, 3] (by decide) hO, ?_⟩
    refine x_nf (L' := [_, _, _, bl _ _ #[_, _, _, _, _]]) rfl ?_
    refine x_op rfl (x_val (r_assign rfl) rfl ?_)
    refine x_nil ?_
    refine x_seq ?_
    refine x_region ?_
    refine x_op rfl (s_buildSlice Tryd.underlying31 Ty.i5 rfl rfl rfl rfl fun b66 hb66 => ?_)
    refine x_op rfl (s_stringish (l := riffL) (i := 0) Tryd.underlying31 Tryd.underlying5 rfl rfl rfl (?_))
    refine x_op rfl (x_val (r_move rfl) rfl ?_)
    refine x_op rfl (x_val (r_len_slice Tryd.underlying31 rfl) rfl ?_)
    refine x_op rfl (s_call Ty.c15 rfl rfl (fun w hw => low2_ (me b66) riffL (bodyB ch dp rt ts d).length 4 w (by decide) (hw.rd_ro (i := 0) rfl (by simp [maxLen])) (by decide) (by decide) (by decide)) (fun wq v wq1 hw h => ?_))
    obtain ⟨R1, r1, rfl, hR1, hO⟩ := h
    refine ⟨_, hw.call0 hO, ?_⟩
    refine x_nf (L' := [_, _, _, _, _, bl _ _ #[_, _, _, _, _]]) rfl ?_
    refine x_op rfl (x_val (r_move rfl) rfl ?_)
    refine x_op rfl (s_appB (i := 0) (z := bodyB ch dp rt ts d) Tryd.underlying31 Ty.i5 rfl rfl rfl rfl hR1 (fun w hO => hO.rd_sl (i := 2) rfl hB3) (by simp only [List.length_append, le_length]; show 4 + 4 + _ ≤ _; omega) fun R2 r2 hR2 => ?_)
    refine x_op rfl (x_val (r_assign rfl) rfl ?_)
    refine x_nil ?_
    refine x_ret ?_
    -- path F
    exact x_ret1 rfl rfl fun w1 hO => ⟨_, rfl, R2, r2, rfl, hR2, hO.pick_ [0] (by decide)⟩
end Go.Proofs.YtlpoepmipbegaaaDoor.Wv
