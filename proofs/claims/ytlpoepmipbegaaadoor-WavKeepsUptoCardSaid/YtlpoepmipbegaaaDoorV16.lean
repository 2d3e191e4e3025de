/- slices.Grow and slices.Concat over bytes; wav.Slice of nothing; wav.Join. -/
import Derived.Test.YtlpoepmipbegaaaDoorV15
set_option linter.unusedVariables false
set_option linter.unusedSimpArgs false
namespace Go.Proofs.YtlpoepmipbegaaaDoor.Wv
open Go Go.RowKit Go.Proofs.YtlpoepmipbegaaaDoor.En
theorem sl_drop {w0 w : World} {F : List Nat} {L : List Asn} {A : Option Addr} {cap el size : Nat} {xs : List Value} (h : Own w0 F (sl A cap el size xs :: L) w) : Own w0 F (sl A cap el size [] :: L) w := by
  refine h.weak_ rfl (fun i x y hx hy o ho => ?_)
  cases i with
  | zero =>
    injection hx with hx; injection hy with hy
    subst hx; subst hy
    obtain ⟨cur, h1, h2, h3⟩ := ho
    exact ⟨cur, h1, h2, fun j u hu => by simp at hu⟩
  | succ i =>
    simp only [List.getElem?_cons_succ] at hx hy
    rw [hx] at hy; injection hy with hy; subst hy
    exact ho
theorem SlOk.drop0 {A : Option Addr} {n cap size : Nat} {xs : List Value} (h : SlOk A n cap size xs) : SlOk A 0 cap size [] := ⟨by simp, by omega, h.2.2.1, fun e => ⟨rfl, (h.2.2.2.1 e).2⟩, h.2.2.2.2⟩
set_option maxRecDepth 20000 in
theorem Grow_ (n : Nat) (w : World) (hn : n ≤ 1000000000) :
    Calls Tryd.prog 35 #[.slice none 0 0, .int .i64 n] w fun en w1 => ∃ r, en = .returned r ∧ ∃ A cap, r = .slice A 0 cap ∧ SlOk A 0 cap 1 [] ∧ Own w [] [sl A cap 5 1 []] w1 := by
  refine fn_enter (args := [_, _]) (F := []) Tryd.func35 rfl rfl rfl ?_
  refine x_seq ?_
  refine x_region ?_
  refine x_op rfl (x_val (r_assign rfl) rfl ?_)
  refine x_nil ?_
  refine x_seq ?_
  refine x_seq ?_
  refine x_region ?_
  refine x_op rfl (x_val (r_move rfl) rfl ?_)
  refine x_op rfl (x_val (r_lss (r := false) rfl rfl (decide_eq_false (by omega))) rfl ?_)
  refine x_nil ?_
  refine x_false rfl ?_
  refine x_skip ?_
  refine x_seq ?_
  refine x_seq ?_
  refine x_region ?_
  refine x_op rfl (x_val (r_move rfl) rfl ?_)
  refine x_op rfl (x_val (r_move rfl) rfl ?_)
  refine x_op rfl (x_val (r_cap_slice Tryd.underlying31 rfl) rfl ?_)
  refine x_op rfl (x_val (r_move rfl) rfl ?_)
  refine x_op rfl (x_val (r_len_slice Tryd.underlying31 rfl) rfl ?_)
  refine x_op rfl (x_val (r_sub rfl rfl ⟨by omega, by omega⟩) rfl ?_)
  refine x_op rfl (x_val (r_sub rfl rfl ⟨by omega, by omega⟩) rfl ?_)
  refine x_op rfl (x_val (r_assign rfl) rfl ?_)
  refine x_nil ?_
  refine x_seq ?_
  refine x_region ?_
  refine x_op rfl (x_val (r_move rfl) rfl ?_)
  refine x_op rfl (x_val (r_gtr rfl rfl rfl) rfl (x_dec (fun h16 => ?_) (fun h16 => ?_)))
  · refine x_nil ?_
    refine x_true rfl ?_
    refine x_heap (L' := sl none 0 5 1 [] :: _) (fun w hO => hO.nilsl 5 1) ?_
    refine x_region ?_
    refine x_op rfl (x_val (r_move rfl) rfl ?_)
    refine x_op rfl (x_val (r_move rfl) rfl ?_)
    refine x_op rfl (x_val (r_cap_slice Tryd.underlying31 rfl) rfl ?_)
    refine x_op rfl (x_val (r_slice_hi Tryd.underlying31 Ty.i5 rfl rfl ⟨by omega, by omega⟩) rfl ?_)
    refine x_op rfl (x_val (r_move rfl) rfl ?_)
    refine x_op rfl (s_appZ (i := 0) (l := []) (m := n) Tryd.underlying31 Tryd.underlying3 Tryd.underlying9 Ty.i5 rfl rfl rfl rfl (SlOk.nil_ 1) (by omega) (by simp; omega) fun A2 c2 hk2 => ?_)
    refine x_op rfl (x_val (r_move rfl) rfl ?_)
    refine x_op rfl (x_val (r_len_slice Tryd.underlying31 rfl) rfl ?_)
    refine x_op rfl (x_val (r_slice_hi Tryd.underlying31 Ty.i5 rfl rfl ⟨by omega, by omega⟩) rfl ?_)
    refine x_op rfl (x_val (r_assign rfl) rfl ?_)
    refine x_nil ?_
    refine x_seq ?_
    refine x_region ?_
    refine x_op rfl (x_val (r_move rfl) rfl ?_)
    refine x_op rfl (x_val (r_assign rfl) rfl ?_)
    refine x_nil ?_
    refine x_ret ?_
    -- path T
    exact x_ret1 rfl rfl fun w1 hO => ⟨_, rfl, A2, c2, rfl, SlOk.drop0 hk2, sl_drop (hO.pick_ [0] (by decide))⟩
  · refine x_nil ?_
    refine x_false rfl ?_
    refine x_skip ?_
    refine x_seq ?_
    refine x_region ?_
    refine x_op rfl (x_val (r_move rfl) rfl ?_)
    refine x_op rfl (x_val (r_assign rfl) rfl ?_)
    refine x_nil ?_
    refine x_ret ?_
    -- path F
    exact x_ret1 rfl rfl fun w1 hO => ⟨_, rfl, none, 0, rfl, SlOk.nil_ 1, hO.none_.nilsl 5 1⟩
def ByOk (w : World) (vs : List Sv) (ls : List (List UInt8)) : Prop :=
  vs.length = ls.length ∧ ∀ (i : Nat) (v : Sv) (l : List UInt8), vs[i]? = some v → ls[i]? = some l → v.2.1 = l.length ∧ Rd w v.1 v.2.1 1 (u8s l)
theorem flat_take {ls : List (List UInt8)} {i : Nat} {l : List UInt8} (h : ls[i]? = some l) : (ls.take (i + 1)).flatten = (ls.take i).flatten ++ l := by
  rw [List.take_add_one, h]; simp
theorem flat_le (ls : List (List UInt8)) (i : Nat) : (ls.take i).flatten.length ≤ ls.flatten.length := by
  have h := congrArg List.flatten (List.take_append_drop i ls)
  rw [List.flatten_append] at h
  have h2 := congrArg List.length h
  rw [List.length_append] at h2
  omega
set_option maxHeartbeats 1000000 in
set_option maxRecDepth 20000 in
theorem Concat_ (X : Option Addr) (c : Nat) (vs : List Sv) (ls : List (List UInt8)) (w : World) (hX : Rd w X vs.length 1 (slcs vs)) (hvn : vs.length ≤ 1000000) (hB : ByOk w vs ls) (hb : ls.flatten.length ≤ 1000000000) :
    Calls Tryd.prog 22 #[.slice X vs.length c] w fun en w1 => ∃ r, en = .returned r ∧ ∃ A cap, r = .slice A ls.flatten.length cap ∧ BOk A cap ls.flatten ∧ Own w [] [SB 5 A cap ls.flatten] w1 := by
  have hlen := hB.1
  have e0 : (ls.take 0).flatten = [] := by simp
  refine fn_enter (args := [_]) (F := []) Tryd.func22 rfl rfl rfl ?_
  refine x_seq ?_
  refine x_region ?_
  refine x_op rfl (x_val (r_assign rfl) rfl ?_)
  refine x_nil ?_
  refine x_seq ?_
  refine x_region ?_
  refine x_op rfl (x_val (r_assign rfl) rfl ?_)
  refine x_nil ?_
  refine x_seq ?_
  refine x_seq ?_
  refine x_region ?_
  refine x_op rfl (x_val (r_move rfl) rfl ?_)
  refine x_op rfl (x_val (r_len_slice Tryd.underlying71 rfl) rfl ?_)
  refine x_op rfl (x_val (r_move rfl) rfl ?_)
  refine x_nil ?_
  refine x_block ?_
  refine x_loopP (σ := Nat) [0, 9, 10] [] (fun s => [(3, .int .i64 ((ls.take s).flatten.length : Nat)), (11, .int .i64 s)]) (fun s => []) (fun s => s ≤ vs.length) (fun s => vs.length - s) (0) (by simp only [e0]; repeat (first | exact trivial | refine ⟨rfl, ?_⟩)) (fun _ h => h.pick_ [] (by decide)) (Nat.zero_le _) ?_
  rintro s hi
  refine x_nfe (e' := [_, _, _, _, _]) (L' := []) rfl rfl ?_
  refine x_seq ?_
  refine x_region ?_
  refine x_op rfl (x_val (r_lss rfl rfl rfl) rfl (x_dec (fun h12 => ?_) (fun h12 => ?_)))
  · refine x_nil ?_
    refine x_seq ?_
    refine x_true rfl ?_
    refine x_skip ?_
    refine x_seq ?_
    refine x_block ?_
    refine x_seq ?_
    refine x_region ?_
    have hlt : s < vs.length := by omega
    have hv : vs[s]? = some (vs[s]'hlt) := List.getElem?_eq_getElem hlt
    generalize vs[s]'hlt = v at hv
    have hx : ls[s]? = some (ls[s]'(by omega)) := List.getElem?_eq_getElem _
    generalize ls[s]'(by omega) = l at hx
    obtain ⟨hv1, hv2⟩ := hB.2 s v l hv hx
    obtain ⟨ad, rfl⟩ := hX.some_ (by omega)
    have hf1 := flat_take hx
    have hf2 := flat_le ls (s + 1)
    have hf3 := congrArg List.length hf1
    rw [List.length_append] at hf3
    refine x_op rfl (x_val (r_indexAddr Tryd.underlying71 Ty.i31 rfl rfl ⟨by omega, by omega⟩) rfl ?_)
    refine x_op rfl (x_val (r_load1 (v := .slice v.1 v.2.1 v.2.2) Ty.z31 rfl (fun w hS => (hS.rd0 hX).cell_ (k := s) (j := 0) hlt (by omega) rfl (slcs_get hv))) rfl ?_)
    refine x_op rfl (x_val (r_assign rfl) rfl ?_)
    refine x_nil ?_
    refine x_seq ?_
    refine x_region ?_
    refine x_op rfl (x_val (r_move rfl) rfl ?_)
    refine x_op rfl (x_val (r_move rfl) rfl ?_)
    refine x_op rfl (x_val (r_len_slice Tryd.underlying31 rfl) rfl ?_)
    refine x_op rfl (x_val (r_add rfl rfl ⟨by omega, by omega⟩) rfl ?_)
    refine x_op rfl (x_val (r_assign rfl) rfl ?_)
    refine x_nil ?_
    refine x_seq ?_
    refine x_region ?_
    refine x_op rfl (x_val (r_move rfl) rfl ?_)
    refine x_op rfl (x_val (r_lss (r := false) rfl rfl (decide_eq_false (by omega))) rfl ?_)
    refine x_nil ?_
    refine x_false rfl ?_
    refine x_skip ?_
    refine x_region ?_
    refine x_op rfl (x_val (r_add rfl rfl ⟨by omega, by omega⟩) rfl ?_)
    refine x_op rfl (x_val (r_move rfl) rfl ?_)
    refine x_nil ?_
    refine x_again (s + 1) (by simp only [hf3, ← hv1]; repeat (first | exact trivial | refine ⟨rfl, ?_⟩)) (fun _ h => h.pick_ [] (by decide)) (by omega) (by omega)
  · refine x_nil ?_
    refine x_seq ?_
    refine x_false rfl ?_
    refine x_exit rfl ?_
    refine x_seq ?_
    have hsl : s = ls.length := by omega
    subst hsl
    simp only [List.take_length]
    refine x_region ?_
    refine x_op rfl (x_val (r_move rfl) rfl ?_)
    refine x_op rfl (s_call Ty.c35 rfl rfl (fun w hw => Grow_ ls.flatten.length w hb) (fun wq v wq1 hw h => ?_))
    obtain ⟨A0, c0, rfl, hA0, hO⟩ := h
    refine ⟨_, hw.call0 hO, ?_⟩
    refine x_nf (L' := [_]) rfl ?_
    refine x_op rfl (x_val (r_assign rfl) rfl ?_)
    refine x_nil ?_
    refine x_seq ?_
    refine x_seq ?_
    refine x_region ?_
    refine x_op rfl (x_val (r_move rfl) rfl ?_)
    refine x_op rfl (x_val (r_len_slice Tryd.underlying71 rfl) rfl ?_)
    refine x_op rfl (x_val (r_move rfl) rfl ?_)
    refine x_nil ?_
    refine x_block ?_
    refine x_loopP (σ := Nat × Option Addr × Nat) [25, 26] [] (fun s => [(6, .slice s.2.1 (ls.take s.1).flatten.length s.2.2), (27, .int .i64 s.1)]) (fun s => [SB 5 s.2.1 s.2.2 (ls.take s.1).flatten]) (fun s => s.1 ≤ vs.length ∧ BOk s.2.1 s.2.2 (ls.take s.1).flatten) (fun s => vs.length - s.1) ((0, A0, c0)) (by simp only [e0]; repeat (first | exact trivial | refine ⟨rfl, ?_⟩)) (fun _ h => by simp only [e0]; exact h.pick_ [0] (by decide)) ⟨Nat.zero_le _, by simp only [e0]; exact hA0⟩ ?_
    rintro ⟨i, A1, c1⟩ ⟨hi2, hA1⟩; simp only [] at hi2 hA1 ⊢
    refine x_nfe (e' := [_, _, _, _]) (L' := [_]) rfl rfl ?_
    refine x_seq ?_
    refine x_region ?_
    refine x_op rfl (x_val (r_lss rfl rfl rfl) rfl (x_dec (fun h28 => ?_) (fun h28 => ?_)))
    · refine x_nil ?_
      refine x_seq ?_
      refine x_true rfl ?_
      refine x_skip ?_
      refine x_seq ?_
      refine x_block ?_
      refine x_seq ?_
      refine x_region ?_
      have hlt2 : i < vs.length := by omega
      have hv : vs[i]? = some (vs[i]'hlt2) := List.getElem?_eq_getElem hlt2
      generalize vs[i]'hlt2 = v at hv
      have hx : ls[i]? = some (ls[i]'(by omega)) := List.getElem?_eq_getElem _
      generalize ls[i]'(by omega) = l at hx
      obtain ⟨v1, v2, v3⟩ := v
      obtain ⟨hv1, hv2⟩ := hB.2 i _ l hv hx
      simp only [] at hv1 hv2
      subst hv1
      obtain ⟨ad, rfl⟩ := hX.some_ (by omega)
      have hf1 := flat_take hx
      have hf2 := flat_le ls (i + 1)
      have hf3 := congrArg List.length hf1
      rw [List.length_append] at hf3
      refine x_op rfl (x_val (r_indexAddr Tryd.underlying71 Ty.i31 rfl rfl ⟨by omega, by omega⟩) rfl ?_)
      refine x_op rfl (x_val (r_load1 (v := .slice v1 l.length v3) Ty.z31 rfl (fun w hS => (hS.rd0 hX).cell_ (k := i) (j := 0) hlt2 (by omega) rfl (slcs_get hv))) rfl ?_)
      refine x_op rfl (x_val (r_assign rfl) rfl ?_)
      refine x_nil ?_
      refine x_region ?_
      refine x_op rfl (x_val (r_move rfl) rfl ?_)
      refine x_op rfl (x_val (r_move rfl) rfl ?_)
      refine x_op rfl (s_appB (i := 0) (z := l) Tryd.underlying31 Ty.i5 rfl rfl rfl rfl hA1 (fun w hO => hO.rd0 hv2) (by omega) fun A2 c2 hA2 => ?_)
      refine x_op rfl (x_val (r_assign rfl) rfl ?_)
      refine x_nil ?_
      refine x_region ?_
      refine x_op rfl (x_val (r_add rfl rfl ⟨by omega, by omega⟩) rfl ?_)
      refine x_op rfl (x_val (r_move rfl) rfl ?_)
      refine x_nil ?_
      refine x_again (s := (i, A1, c1)) ((i + 1, A2, c2)) (by simp only [hf1]; repeat (first | exact trivial | refine ⟨rfl, ?_⟩)) (fun _ h => by simp only [hf1]; exact h.pick_ [0] (by decide)) ⟨by omega, by simp only [hf1]; exact hA2⟩ (by simp only []; omega)
    · refine x_nil ?_
      refine x_seq ?_
      refine x_false rfl ?_
      refine x_exit rfl ?_
      refine x_seq ?_
      have hsl2 : i = ls.length := by omega
      subst hsl2
      simp only [List.take_length] at hA1 ⊢
      refine x_region ?_
      refine x_op rfl (x_val (r_move rfl) rfl ?_)
      refine x_op rfl (x_val (r_assign rfl) rfl ?_)
      refine x_nil ?_
      refine x_ret ?_
      -- path FF
      exact x_ret1 rfl rfl fun w1 hO => ⟨_, rfl, A1, c1, rfl, hA1, hO.pick_ [0] (by decide)⟩
end Go.Proofs.YtlpoepmipbegaaaDoor.Wv
