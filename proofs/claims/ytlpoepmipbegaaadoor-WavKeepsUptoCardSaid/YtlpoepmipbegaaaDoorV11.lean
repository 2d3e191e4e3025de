/- A file's tags are read. -/
import Derived.Test.YtlpoepmipbegaaaDoorV10
set_option linter.unusedVariables false
set_option linter.unusedSimpArgs false
namespace Go.Proofs.YtlpoepmipbegaaaDoor.Wv
open Go Go.RowKit Go.Proofs.YtlpoepmipbegaaaDoor.En
theorem _root_.Go.Proofs.YtlpoepmipbegaaaDoor.En.Own.globF {w0 w : World} {F : List Nat} {L : List Asn} (h : Own w0 F L w) (hg : Glob w0) (h0 : 0 ∉ F) : Glob w := by
  obtain ⟨m, hm⟩ := hg
  exact ⟨m, h.old_ hm h0⟩
theorem HasNot_ (A B : Option Addr) (c : Nat) (r : List UInt8) (w : World) (hc : (dataL ++ r).length ≤ c) (hmax : c ≤ 1000000000000) (ha : Rd w A (dataL ++ r).length 1 (u8s (dataL ++ r))) (hb : Rd w B 4 1 (u8s tagsL)) :
    Calls Tryd.prog 41 #[.slice A (dataL ++ r).length c, .slice B 4 4] w fun en w1 => ∃ r, en = .returned r ∧ (r = .bool false ∧ Own w [] [] w1) := by
  refine (HasPrefix_ A B c 4 (dataL ++ r) tagsL w (by simp) hc hmax ha hb).mono ?_
  rintro en w1 ⟨v, rfl, rfl, hO⟩
  exact ⟨_, rfl, congrArg Value.bool (by rw [show List.take tagsL.length (dataL ++ r) = dataL from rfl]; decide +kernel), hO⟩
theorem HasYes_ (A B : Option Addr) (c : Nat) (r : List UInt8) (w : World) (hc : (tagsL ++ r).length ≤ c) (hmax : c ≤ 1000000000000) (ha : Rd w A (tagsL ++ r).length 1 (u8s (tagsL ++ r))) (hb : Rd w B 4 1 (u8s tagsL)) :
    Calls Tryd.prog 41 #[.slice A (tagsL ++ r).length c, .slice B 4 4] w fun en w1 => ∃ r, en = .returned r ∧ (r = .bool true ∧ Own w [] [] w1) := by
  refine (HasPrefix_ A B c 4 (tagsL ++ r) tagsL w (by simp) hc hmax ha hb).mono ?_
  rintro en w1 ⟨v, rfl, rfl, hO⟩
  exact ⟨_, rfl, congrArg Value.bool (by rw [show List.take tagsL.length (tagsL ++ r) = tagsL from rfl]; decide +kernel), hO⟩
set_option maxRecDepth 20000 in
theorem tags0_ (bi : Nat) (B : Option Addr) (m c : Nat) (r : List UInt8) (w : World) (hC : Cur w [bi] B m c (dataL ++ r)) (hO : Own w [bi] [bl bi 56 #[.slice B m c, .bool false]] w) :
    Calls Tryd.prog 33 #[.pointer (me bi)] w fun en w1 => ∃ r, en = .returned r ∧ (r = .slice none 0 0 ∧ Own w [bi] [bl bi 56 #[.slice B m c, .bool false]] w1) := by
  have hl := hC.len
  subst hl
  have hpos : 0 < (dataL ++ r).length := by simp
  refine fn_enterF (args := [_]) hO Tryd.func33 rfl rfl rfl ?_
  refine x_seq ?_
  refine x_region ?_
  refine x_op rfl (x_val (r_assign rfl) rfl ?_)
  refine x_nil ?_
  refine x_seq ?_
  refine x_seq ?_
  refine x_region ?_
  refine x_op rfl (x_val (r_move rfl) rfl ?_)
  refine x_op rfl (x_val (r_nilCheck rfl) rfl ?_)
  refine x_op rfl (x_val (r_fieldAddr Ty.q56_0 rfl) rfl ?_)
  refine x_op rfl (x_val (r_own_add (i := 0) Ty.z31 rfl rfl rfl) rfl ?_)
  refine x_op rfl (s_buildSlice Tryd.underlying31 Ty.i5 rfl rfl rfl rfl fun b11 hb11 => ?_)
  refine x_op rfl (s_stringish (l := tagsL) (i := 0) Tryd.underlying31 Tryd.underlying5 rfl rfl rfl (?_))
  refine x_op rfl (s_call Ty.c41 rfl rfl (fun w hw => HasNot_ B (me b11) c r w hC.le hC.max (hw.rd_old hC.rd (hC.ap hpos)) (hw.rd_ro (i := 0) rfl (by simp [maxLen]))) (fun wq v wq1 hw h => ?_))
  obtain ⟨rfl, hO⟩ := h
  refine ⟨_, hw.call0 hO, ?_⟩
  refine x_nf (L' := [_, _]) rfl ?_
  refine x_op rfl (x_val (r_not rfl rfl) rfl ?_)
  refine x_nil ?_
  refine x_true rfl ?_
  refine x_seq ?_
  refine x_region ?_
  refine x_op rfl (x_val (r_assign rfl) rfl ?_)
  refine x_nil ?_
  refine x_ret ?_
  -- path 
  exact x_ret1 rfl rfl fun w1 hO => ⟨_, rfl, rfl, hO.pick_ [1] (by decide)⟩
theorem tagB_drop {ts : List ByteArray} {j : Nat} {t : ByteArray} (h : ts[j]? = some t) (h12 : t.size ≤ 12) : tagB (ts.drop j) = le (t.size : Int) 1 ++ (t.data.toList ++ tagB (ts.drop (j + 1))) := by
  have hj : j < ts.length := (List.getElem?_eq_some_iff.1 h).1
  have e1 : ts.drop j = t :: ts.drop (j + 1) := by
    rw [List.drop_eq_getElem_cons hj, (List.getElem?_eq_some_iff.1 h).2]
  have e2 : le (t.size : Int) 1 = [UInt8.ofNat t.size] := by
    have h0 : leB (t.size : Int) 0 = UInt8.ofNat t.size := by
      unfold leB
      have : ((t.size : Int) / 256 ^ 0 % 256).toNat = t.size := by
        rw [Int.pow_zero, Int.ediv_one]
        omega
      rw [this]
    simp [le, h0]
  rw [e1, e2]
  rfl
theorem tagB_nil {ts : List ByteArray} (h : tagB ts = []) : ts = [] := by
  cases ts with
  | nil => rfl
  | cons a b => simp [tagB] at h
theorem strs_take {ts : List ByteArray} {j : Nat} {t : ByteArray} (h : ts[j]? = some t) : strs (ts.take (j + 1)) = strs (ts.take j) ++ [.string t] := by
  rw [List.take_add_one, h]
  simp [strs]
theorem leV_zeros : ∀ k : Nat, leV (List.replicate k 0) = 0
  | 0 => rfl
  | k + 1 => by rw [List.replicate_succ]; simp [leV, leV_zeros k]
abbrev tagSeq (ts : List ByteArray) (rest : List UInt8) : List UInt8 := tagsL ++ (le ((tagB ts).length : Int) 4 ++ (tagB ts ++ (List.replicate ((tagB ts).length % 2) 0 ++ rest)))
set_option maxHeartbeats 1000000 in
set_option maxRecDepth 20000 in
theorem tags1_ (bi : Nat) (B : Option Addr) (m c : Nat) (ts : List ByteArray) (rest : List UInt8) (w : World) (h8 : ts.length ≤ 8) (h1 : 0 < ts.length) (hts : allTags ts = true) (hr : 0 < rest.length) (hC : Cur w [bi] B m c (tagSeq ts rest)) (hO : Own w [bi] [bl bi 56 #[.slice B m c, .bool false]] w) (hg : Glob w) (hb0 : 0 ∉ [bi]) :
    Calls Tryd.prog 33 #[.pointer (me bi)] w fun en w1 => ∃ r, en = .returned r ∧ ∃ T' ct', r = .slice T' ts.length ct' ∧ SlOk T' ts.length ct' 1 (strs ts) ∧ ∃ B' m' c', Cur w [bi] B' m' c' rest ∧ (∀ w' F', Cur w' F' B m c (tagSeq ts rest) → Cur w' F' B' m' c' rest) ∧ Own w [bi] [bl bi 56 #[.slice B' m' c', .bool false], sl T' ct' 9 1 (strs ts)] w1 := by
  have hl := hC.len
  subst hl
  have hpos : 0 < (tagSeq ts rest).length := by simp
  have h12 : ∀ t ∈ ts, isTagF t = true ∧ t.size ≤ 12 := fun t ht => by
    have := List.all_eq_true.1 hts t ht
    exact ⟨this, isTagF_small this⟩
  have htl := tagB_length ts (fun t ht => (h12 t ht).2)
  have p4 : (256 : Int) ^ 4 = 4294967296 := by decide
  refine fn_enterF (args := [_]) hO Tryd.func33 rfl rfl rfl ?_
  refine x_seq ?_
  refine x_region ?_
  refine x_op rfl (x_val (r_assign rfl) rfl ?_)
  refine x_nil ?_
  refine x_seq ?_
  refine x_seq ?_
  refine x_region ?_
  refine x_op rfl (x_val (r_move rfl) rfl ?_)
  refine x_op rfl (x_val (r_nilCheck rfl) rfl ?_)
  refine x_op rfl (x_val (r_fieldAddr Ty.q56_0 rfl) rfl ?_)
  refine x_op rfl (x_val (r_own_add (i := 0) Ty.z31 rfl rfl rfl) rfl ?_)
  refine x_op rfl (s_buildSlice Tryd.underlying31 Ty.i5 rfl rfl rfl rfl fun b11 hb11 => ?_)
  refine x_op rfl (s_stringish (l := tagsL) (i := 0) Tryd.underlying31 Tryd.underlying5 rfl rfl rfl (?_))
  refine x_op rfl (s_call Ty.c41 rfl rfl (fun w hw => HasYes_ B (me b11) c (le ((tagB ts).length : Int) 4 ++ (tagB ts ++ (List.replicate ((tagB ts).length % 2) 0 ++ rest))) w hC.le hC.max (hw.rd_old hC.rd (hC.ap hpos)) (hw.rd_ro (i := 0) rfl (by simp [maxLen]))) (fun wq v wq1 hw h => ?_))
  obtain ⟨rfl, hO⟩ := h
  refine ⟨_, hw.call0 hO, ?_⟩
  refine x_nf (L' := [_, _]) rfl ?_
  refine x_op rfl (x_val (r_not rfl rfl) rfl ?_)
  refine x_nil ?_
  refine x_false rfl ?_
  refine x_skip ?_
  refine x_seq ?_
  refine x_region ?_
  refine x_op rfl (x_val (r_move rfl) rfl ?_)
  refine x_op rfl (s_call Ty.c30 rfl rfl (fun w hw => mustC hw (i := 1) rfl hC hpos) (fun wq v wq1 hw h => ?_))
  obtain ⟨rfl, B1, m1, c1, hC1, hD1, hO⟩ := h
  refine ⟨_, hw.swap_ [1] [0] (by decide) hO, ?_⟩
  refine x_nf (L' := [_, _]) rfl ?_
  refine x_nil ?_
  refine x_seq ?_
  refine x_region ?_
  refine x_op rfl (x_val (r_move rfl) rfl ?_)
  refine x_op rfl (s_call Ty.c19 rfl rfl (fun w hw => numberL hw (i := 0) (n := ((tagB ts).length : Int)) (k := 4) rfl hC1 (by omega) (by have := hC1.len; simp only [List.length_append, le_length] at this; omega) (by omega)) (fun wq v wq1 hw h => ?_))
  obtain ⟨rfl, B2, m2, c2, hC2, hD2, hO⟩ := h
  refine ⟨_, hw.swap_ [0] [1] (by decide) hO, ?_⟩
  refine x_nf (L' := [_, _]) rfl ?_
  refine x_op rfl (x_val (r_assign rfl) rfl ?_)
  refine x_nil ?_
  refine x_seq ?_
  refine x_region ?_
  refine x_op rfl (x_val (r_move rfl) rfl ?_)
  refine x_op rfl (x_val (r_move rfl) rfl ?_)
  refine x_op rfl (s_call Ty.c34 rfl rfl (fun w hw => takeC hw (i := 0) (x := tagB ts) rfl hC2) (fun wq v wq1 hw h => ?_))
  obtain ⟨rfl, B3, m3, c3, hC3, hD3, hO⟩ := h
  refine ⟨_, hw.swap_ [0] [1] (by decide) hO, ?_⟩
  have hT2 : Cur w [bi] B2 (tagB ts).length c2 (tagB ts ++ []) := by
    have q := hC2.len
    rw [List.length_append] at q
    exact ⟨by simp, by have := hC2.le; omega, hC2.max, by rw [List.append_nil]; exact hC2.head, fun h0 => hC2.ap (by omega)⟩
  rw [List.append_nil] at hT2
  refine x_nf (L' := [_, _]) rfl ?_
  refine x_op rfl (x_val (r_build Ty.i56 Ty.p56 rfl rfl) rfl ?_)
  refine x_op rfl (s_box rfl rfl fun b23 hb23 => ?_)
  refine x_op rfl (x_val (r_assign rfl) rfl ?_)
  refine x_nil ?_
  refine x_seq ?_
  refine x_region ?_
  refine x_op rfl (x_val (r_move rfl) rfl ?_)
  refine x_op rfl (x_val (r_move rfl) rfl ?_)
  refine x_op rfl (x_val (r_rem rfl rfl ⟨by omega, by omega, by omega⟩) rfl ?_)
  refine x_op rfl (s_call Ty.c31 rfl rfl (fun w hw => wantC hw (i := 1) (k := (tagB ts).length % 2) rfl hC3 (by have := hC3.len; simp only [List.length_append] at this; omega) (List.length_replicate ..) (by omega) (by rw [leV_zeros]; rfl)) (fun wq v wq1 hw h => ?_))
  obtain ⟨rfl, B4, m4, c4, hC4, hD4, hO⟩ := h
  refine ⟨_, hw.swap_ [1] [0, 2] (by decide) hO, ?_⟩
  refine x_nf (L' := [_, bl _ _ #[_, _], _]) rfl ?_
  refine x_nil ?_
  refine x_seq ?_
  refine x_heap (L' := sl none 0 9 1 [] :: _) (fun w hO => hO.nilsl 9 1) ?_
  refine x_region ?_
  refine x_op rfl (x_val (r_assign rfl) rfl ?_)
  refine x_nil ?_
  refine x_seq ?_
  refine x_block ?_
  refine x_loopP (σ := Nat × (Option Addr × Nat) × (Option Addr × Nat × Nat)) [0, 4] [] (fun s => [(5, .slice s.2.1.1 s.1 s.2.1.2)]) (fun s => [bl b23 56 #[.slice s.2.2.1 s.2.2.2.1 s.2.2.2.2, .bool false], sl s.2.1.1 s.2.1.2 9 1 (strs (ts.take s.1)), bl bi 56 #[.slice B4 m4 c4, .bool false]]) (fun s => s.1 ≤ ts.length ∧ SlOk s.2.1.1 s.1 s.2.1.2 1 (strs (ts.take s.1)) ∧ Cur w [bi] s.2.2.1 s.2.2.2.1 s.2.2.2.2 (tagB (ts.drop s.1))) (fun s => ts.length - s.1) ((0, (none, 0), (B2, (tagB ts).length, c2))) (by repeat (first | exact trivial | refine ⟨rfl, ?_⟩)) (fun _ h => h.pick_ [2, 0, 1] (by decide)) ⟨Nat.zero_le _, SlOk.nil_ 1, hT2⟩ ?_
  rintro ⟨j, ⟨A1, d1⟩, ⟨B5, m5, c5⟩⟩ ⟨hj, hA1, hC5⟩; simp only [] at hj hA1 hC5 ⊢
  refine x_nfe (e' := [_, _, _]) (L' := [bl _ _ #[_, _], _, _]) rfl rfl ?_
  refine x_seq ?_
  refine x_seq ?_
  refine x_region ?_
  refine x_op rfl (x_val (r_move rfl) rfl ?_)
  refine x_op rfl (x_val (r_nilCheck rfl) rfl ?_)
  refine x_op rfl (x_val (r_fieldAddr Ty.q56_1 rfl) rfl ?_)
  refine x_op rfl (x_val (r_own_add (i := 2) Ty.z4 rfl rfl rfl) rfl ?_)
  refine x_op rfl (x_val (r_not rfl rfl) rfl ?_)
  refine x_op rfl (x_val (r_move rfl) rfl ?_)
  refine x_op rfl (x_val (r_move rfl) rfl ?_)
  refine x_op rfl (x_val (r_nilCheck rfl) rfl ?_)
  refine x_op rfl (x_val (r_fieldAddr Ty.q56_0 rfl) rfl ?_)
  refine x_op rfl (x_val (r_own_add (i := 0) Ty.z31 rfl rfl rfl) rfl ?_)
  refine x_op rfl (x_val (r_len_slice Tryd.underlying31 rfl) rfl ?_)
  refine x_op rfl (x_val (r_gtr rfl rfl rfl) rfl (x_dec (fun h39 => ?_) (fun h39 => ?_)))
  · refine x_op rfl (x_val (r_pick_t rfl rfl) rfl ?_)
    refine x_nil ?_
    refine x_true rfl ?_
    refine x_skip ?_
    refine x_block ?_
    refine x_seq ?_
    refine x_region ?_
    have hjl : j < ts.length := by
      rcases Nat.lt_or_ge j ts.length with h | h
      · exact h
      · have hz := hC5.len
        rw [List.drop_eq_nil_of_le h] at hz
        simp [tagB] at hz
        omega
    have ht : ts[j]? = some (ts[j]'hjl) := List.getElem?_eq_getElem hjl
    generalize ts[j]'hjl = t at ht
    have htt := h12 t (List.mem_of_getElem? ht)
    rw [tagB_drop ht htt.2] at hC5
    refine x_op rfl (x_val (r_move rfl) rfl ?_)
    refine x_op rfl (x_val (r_move rfl) rfl ?_)
    refine x_op rfl (s_call Ty.c19 rfl rfl (fun w hw => numberL hw (i := 0) (n := (t.size : Int)) (k := 1) rfl hC5 (by omega) (by omega) (by omega)) (fun wq v wq1 hw h => ?_))
    obtain ⟨rfl, B6, m6, c6, hC6, hD6, hO⟩ := h
    refine ⟨_, hw.swap_ [0] [1, 2] (by decide) hO, ?_⟩
    refine x_nf (L' := [bl _ _ #[_, _], _, _]) rfl ?_
    refine x_op rfl (s_call Ty.c34 rfl rfl (fun w hw => takeC hw (i := 0) (x := t.data.toList) rfl hC6) (fun wq v wq1 hw h => ?_))
    obtain ⟨rfl, B7, m7, c7, hC7, hD7, hO⟩ := h
    refine ⟨_, hw.swap_ [0] [1, 2] (by decide) hO, ?_⟩
    have hap6 : 0 < t.data.toList.length → ∀ a, B6 = some a → a.block ∉ [bi] := fun h0 => hC6.ap (by have := hC6.len; rw [List.length_append] at this; omega)
    refine x_nf (L' := [bl _ _ #[_, _], _, _]) rfl ?_
    refine x_op rfl (x_val (r_bytes_strB (l := t.data.toList) Tryd.underlying31 Tryd.underlying5 Tryd.underlying9 rfl (fun w hS => hS.rd_any hC6.head hap6)) rfl ?_)
    refine x_op rfl (x_val (r_assign rfl) rfl ?_)
    refine x_nil ?_
    refine x_seq ?_
    refine x_region ?_
    refine x_op rfl (x_val (r_move rfl) rfl ?_)
    refine x_op rfl (x_val (r_move rfl) rfl ?_)
    refine x_op rfl (x_val (r_nilCheck rfl) rfl ?_)
    refine x_op rfl (x_val (r_fieldAddr Ty.q56_1 rfl) rfl ?_)
    refine x_op rfl (x_val (r_own_add (i := 0) Ty.z4 rfl rfl rfl) rfl ?_)
    refine x_op rfl (x_val (r_move rfl) rfl ?_)
    refine x_op rfl (x_val (r_move rfl) rfl ?_)
    refine x_op rfl (s_call Ty.c27 rfl rfl (fun w hw => IsTag_ t w (by omega) (hw.globF hg hb0)) (fun wq v wq1 hw h => ?_))
    obtain ⟨rfl, hO⟩ := h
    refine ⟨_, hw.call0 hO, ?_⟩
    refine x_nf (L' := [bl _ _ #[_, _], _, _]) rfl ?_
    refine x_op rfl (x_val (r_not (r := false) rfl (by rw [htt.1]; rfl)) rfl ?_)
    refine x_op rfl (x_val (r_pick_f rfl rfl) rfl ?_)
    refine x_op rfl (x_val (r_nilCheck rfl) rfl ?_)
    refine x_op rfl (x_val (r_fieldAddr Ty.q56_1 rfl) rfl ?_)
    refine x_op rfl (s_store (i := 2) Ty.z4 rfl rfl rfl rfl rfl rfl ?_)
    refine x_nf (L' := [bl _ _ #[_, _], _, _]) rfl ?_
    refine x_nil ?_
    refine x_region ?_
    refine x_op rfl (x_val (r_move rfl) rfl ?_)
    refine x_op rfl (x_val (r_move rfl) rfl ?_)
    refine x_op rfl (s_buildSlice Tryd.underlying24 Ty.i9 rfl rfl rfl rfl fun b60 hb60 => ?_)
    refine x_op rfl (s_append (i := 2) (m := j) (news := [.string t]) Tryd.underlying24 Ty.i9 rfl (by omega) rfl rfl rfl rfl hA1 (fun w hO => hO.rd_bl (i := 0) rfl rfl (by simp [maxLen]) rfl) (fun u hu => by rw [List.mem_singleton.1 hu]; rfl) (by simp only [maxLen]; omega) (by omega) fun A2 d2 hA2 => ?_)
    refine x_op rfl (x_val (r_assign rfl) rfl ?_)
    refine x_nil ?_
    have ee := strs_take ht
    refine x_again (s := (j, (A1, d1), (B5, m5, c5))) ((j + 1, (A2, d2), (B7, m7, c7))) (by repeat (first | exact trivial | refine ⟨rfl, ?_⟩)) (fun _ h => by simp only [ee]; exact h.pick_ [1, 2, 3] (by decide)) ⟨by omega, by simp only [ee]; exact hA2, hC7⟩ (by simp only []; omega)
  · refine x_op rfl (x_val (r_pick_t rfl rfl) rfl ?_)
    refine x_nil ?_
    refine x_false rfl ?_
    refine x_exit rfl ?_
    refine x_seq ?_
    have hjl : j = ts.length := by
      have hz := hC5.len
      have hm : m5 = 0 := by omega
      have h0 : tagB (ts.drop j) = [] := List.eq_nil_of_length_eq_zero (by omega)
      have h2 := tagB_nil h0
      have h3 : (ts.drop j).length = 0 := by rw [h2]; rfl
      rw [List.length_drop] at h3
      omega
    subst hjl
    simp only [List.take_length] at hA1 ⊢
    refine x_region ?_
    refine x_op rfl (x_val (r_move rfl) rfl ?_)
    refine x_op rfl (x_val (r_move rfl) rfl ?_)
    refine x_op rfl (x_val (r_nilCheck rfl) rfl ?_)
    refine x_op rfl (x_val (r_fieldAddr Ty.q56_1 rfl) rfl ?_)
    refine x_op rfl (x_val (r_own_add (i := 2) Ty.z4 rfl rfl rfl) rfl ?_)
    refine x_op rfl (x_val (r_move rfl) rfl ?_)
    refine x_op rfl (x_val (r_move rfl) rfl ?_)
    refine x_op rfl (x_val (r_len_slice Tryd.underlying24 rfl) rfl ?_)
    refine x_op rfl (x_val (r_eql (r := false) rfl rfl (decide_eq_false (by omega))) rfl ?_)
    refine x_op rfl (x_val (r_pick_f rfl rfl) rfl ?_)
    refine x_op rfl (x_val (r_move rfl) rfl ?_)
    refine x_op rfl (x_val (r_move rfl) rfl ?_)
    refine x_op rfl (x_val (r_len_slice Tryd.underlying24 rfl) rfl ?_)
    refine x_op rfl (x_val (r_gtr (r := false) rfl rfl (decide_eq_false (by omega))) rfl ?_)
    refine x_op rfl (x_val (r_pick_f rfl rfl) rfl ?_)
    refine x_op rfl (x_val (r_nilCheck rfl) rfl ?_)
    refine x_op rfl (x_val (r_fieldAddr Ty.q56_1 rfl) rfl ?_)
    refine x_op rfl (s_store (i := 2) Ty.z4 rfl rfl rfl rfl rfl rfl ?_)
    refine x_nf (L' := [bl _ _ #[_, _], _, _]) rfl ?_
    refine x_nil ?_
    refine x_seq ?_
    refine x_region ?_
    refine x_op rfl (x_val (r_move rfl) rfl ?_)
    refine x_op rfl (x_val (r_assign rfl) rfl ?_)
    refine x_nil ?_
    refine x_ret ?_
    -- path F
    exact x_ret1 rfl rfl fun w1 hO => ⟨_, rfl, A1, d1, rfl, hA1, B4, m4, c4, hC4, fun w' F' h => hD4 _ _ (hD3 _ _ (hD2 _ _ (hD1 _ _ h))), hO.pick_ [2, 1] (by decide)⟩
end Go.Proofs.YtlpoepmipbegaaaDoor.Wv
