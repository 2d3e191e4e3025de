/- stream.Check: is it a track? -/
import Derived.Test.YtlpoepmipbegaaaDoorV6
set_option linter.unusedVariables false
set_option linter.unusedSimpArgs false
namespace Go.Proofs.YtlpoepmipbegaaaDoor.Wv
open Go Go.RowKit Go.Proofs.YtlpoepmipbegaaaDoor.En
def ints (xs : List Int) : List Value := xs.map (.int .i64 ·)
theorem ints_get {xs : List Int} {i : Nat} {x : Int} (h : xs[i]? = some x) : (ints xs)[i * 1 + 0]? = some (.int .i64 x) := by simp [ints, h]
abbrev Sv := Option Addr × Nat × Nat
/-- The channels behind a slice of slices. -/
def ChOk (w : World) (vs : List Sv) (chs : List (List Int)) : Prop :=
  vs.length = chs.length ∧ ∀ (i : Nat) (v : Sv) (xs : List Int), vs[i]? = some v → chs[i]? = some xs → v.2.1 = xs.length ∧ v.2.1 ≤ v.2.2 ∧ v.2.2 ≤ maxLen ∧ Rd w v.1 v.2.1 1 (ints xs)
theorem ChOk.keep {w w' : World} {L : List Asn} {vs : List Sv} {chs : List (List Int)} (h : ChOk w vs chs) (hO : Own w [] L w') : ChOk w' vs chs :=
  ⟨h.1, fun i v xs h1 h2 => by obtain ⟨a, b, c, d⟩ := h.2 i v xs h1 h2; exact ⟨a, b, c, hO.rd0 d⟩⟩
def fits (dp x : Int) : Prop := x / 2 ^ (dp - 1).toNat = 0 ∨ x / 2 ^ (dp - 1).toNat = -1
structure TrackOk (ch dp rt : Int) (ts : List ByteArray) (chs : List (List Int)) : Prop where
  shape : 1 ≤ ch ∧ ch ≤ 2 ∧ 4 ≤ dp ∧ dp ≤ 24 ∧ 1 ≤ rt ∧ rt ≤ 655350
  tagsN : ts.length ≤ 8
  tags : allTags ts = true
  chN : (chs.length : Int) = ch
  len : ∀ xs ∈ chs, xs.length ≤ 4096 ∧ (xs.length : Int) = ((chs.head?.getD []).length : Int)
  fit : ∀ xs ∈ chs, ∀ x ∈ xs, fits dp x
theorem lenF_eq {w : World} {vs : List Sv} {chs : List (List Int)} (h : ChOk w vs chs) : lenF vs = ((chs.head?.getD []).length : Int) := by
  obtain ⟨h1, h2⟩ := h
  cases vs with
  | nil => cases chs with
    | nil => rfl
    | cons a b => simp at h1
  | cons v r => cases chs with
    | nil => simp at h1
    | cons a b =>
      have := (h2 0 v a rfl rfl).1
      simp [lenF, this]
set_option maxHeartbeats 1000000 in
set_option maxRecDepth 20000 in
theorem Check_ (ch dp rt : Int) (T C : Option Addr) (ct cc : Nat) (ts : List ByteArray) (vs : List Sv) (chs : List (List Int)) (w : World) (hT : Rd w T ts.length 1 (strs ts)) (hts : ∀ t ∈ ts, t.size < 4294967281) (htn : ts.length ≤ 1000000000) (hC : Rd w C vs.length 1 (slcs vs)) (hch : ChOk w vs chs) (hcn : vs.length ≤ 1000000000) (hg : Glob w) :
    Calls Tryd.prog 13 #[.agg #[.int .i64 ch, .int .i64 dp, .int .i64 rt, .slice T ts.length ct, .slice C vs.length cc]] w fun en w1 => ∃ r, en = .returned r ∧ ∃ e : Int, r = .int .i64 e ∧ (e = 0 ↔ TrackOk ch dp rt ts chs) ∧ Own w [] [] w1 := by
  have hlen := hch.1
  have hlF := lenF_eq hch
  refine fn_enter (args := [_]) (F := []) Tryd.func13 rfl rfl rfl ?_
  refine x_seq ?_
  refine x_region ?_
  refine x_op rfl (s_box rfl rfl fun b1 hb1 => ?_)
  refine x_op rfl (x_val (r_assign rfl) rfl ?_)
  refine x_nil ?_
  refine x_seq ?_
  refine x_seq ?_
  refine x_region ?_
  refine x_op rfl (x_val (r_fieldAddr Ty.q29_0 rfl) rfl ?_)
  refine x_op rfl (x_val (r_own_at (i := 0) Ty.z23 rfl rfl rfl rfl) rfl ?_)
  refine x_op rfl (s_call Ty.c24 rfl rfl (fun w hw => FCheck_ ch dp rt w) (fun wq v wq1 hw h => ?_))
  obtain ⟨rfl, hO⟩ := h
  refine ⟨_, hw.call0 hO, ?_⟩
  refine x_nf (L' := [bl _ _ #[_, _, _, _, _]]) rfl ?_
  refine x_op rfl (x_val (r_assign rfl) rfl ?_)
  refine x_nil ?_
  refine x_seq ?_
  refine x_region ?_
  refine x_op rfl (x_val (r_move rfl) rfl ?_)
  refine x_op rfl (x_val (r_neq rfl rfl rfl) rfl (x_dec (fun h15 => ?_) (fun h15 => ?_)))
  · refine x_nil ?_
    refine x_true rfl ?_
    refine x_seq ?_
    refine x_region ?_
    refine x_op rfl (x_val (r_move rfl) rfl ?_)
    refine x_op rfl (x_val (r_assign rfl) rfl ?_)
    refine x_nil ?_
    refine x_ret ?_
    -- path T
    exact x_ret1 rfl rfl fun w1 hO => ⟨_, rfl, _, rfl, ⟨fun h => absurd h h15, fun h => by
      have h1 := h.shape
      exact absurd (by unfold fcheck; rw [if_pos h1]) h15⟩, hO.none_⟩
  · refine x_nil ?_
    refine x_false rfl ?_
    refine x_skip ?_
    refine x_seq ?_
    refine x_seq ?_
    refine x_region ?_
    refine x_op rfl (x_val (r_fieldAddr Ty.q29_1 rfl) rfl ?_)
    refine x_op rfl (x_val (r_own_add (i := 0) Ty.z24 rfl rfl rfl) rfl ?_)
    refine x_op rfl (x_val (r_len_slice Tryd.underlying24 rfl) rfl ?_)
    refine x_op rfl (x_val (r_gtr rfl rfl rfl) rfl (x_dec (fun h20 => ?_) (fun h20 => ?_)))
    · refine x_op rfl (x_val (r_move rfl) rfl ?_)
      refine x_off rfl rfl ?_
      refine x_off rfl rfl ?_
      refine x_off rfl rfl ?_
      refine x_off rfl rfl ?_
      refine x_off rfl rfl ?_
      refine x_off rfl rfl ?_
      refine x_off rfl rfl ?_
      refine x_op rfl (x_val (r_pick_t rfl rfl) rfl ?_)
      refine x_op rfl (x_val (r_move rfl) rfl ?_)
      refine x_off rfl rfl ?_
      refine x_off rfl rfl ?_
      refine x_off rfl rfl ?_
      refine x_op rfl (x_val (r_pick_t rfl rfl) rfl ?_)
      refine x_nil ?_
      refine x_true rfl ?_
      refine x_seq ?_
      refine x_region ?_
      refine x_op rfl (x_val (r_assign rfl) rfl ?_)
      refine x_nil ?_
      refine x_ret ?_
      -- path FT
      exact x_ret1 rfl rfl fun w1 hO => ⟨_, rfl, _, rfl, ⟨fun h => (by cases h), fun h => by have := h.tagsN; omega⟩, hO.none_⟩
    · refine x_op rfl (x_val (r_move rfl) rfl ?_)
      refine x_op rfl (x_val (r_fieldAddr Ty.q29_2 rfl) rfl ?_)
      refine x_op rfl (x_val (r_own_add (i := 0) Ty.z25 rfl rfl rfl) rfl ?_)
      refine x_op rfl (x_val (r_len_slice Tryd.underlying25 rfl) rfl ?_)
      refine x_op rfl (x_val (r_fieldAddr Ty.q29_0 rfl) rfl ?_)
      refine x_op rfl (x_val (r_fieldAddr Ty.q23_0 rfl) rfl ?_)
      refine x_op rfl (x_val (r_own_add (i := 0) Ty.z3 rfl rfl rfl) rfl ?_)
      refine x_op rfl (x_val (r_neq rfl rfl rfl) rfl (x_dec (fun h28 => ?_) (fun h28 => ?_)))
      · refine x_op rfl (x_val (r_pick_f rfl rfl) rfl ?_)
        refine x_op rfl (x_val (r_move rfl) rfl ?_)
        refine x_off rfl rfl ?_
        refine x_off rfl rfl ?_
        refine x_off rfl rfl ?_
        refine x_op rfl (x_val (r_pick_t rfl rfl) rfl ?_)
        refine x_nil ?_
        refine x_true rfl ?_
        refine x_seq ?_
        refine x_region ?_
        refine x_op rfl (x_val (r_assign rfl) rfl ?_)
        refine x_nil ?_
        refine x_ret ?_
        -- path FFT
        exact x_ret1 rfl rfl fun w1 hO => ⟨_, rfl, _, rfl, ⟨fun h => (by cases h), fun h => by have := h.chN; omega⟩, hO.none_⟩
      · refine x_op rfl (x_val (r_pick_f rfl rfl) rfl ?_)
        refine x_op rfl (x_val (r_move rfl) rfl ?_)
        refine x_op rfl (x_val (r_fieldAddr Ty.q29_1 rfl) rfl ?_)
        refine x_op rfl (x_val (r_own_add (i := 0) Ty.z24 rfl rfl rfl) rfl ?_)
        refine x_op rfl (s_call Ty.c25 rfl rfl (fun w hw => hasBad_ T ct ts w (hw.rd0 hT) hts htn (hw.glob hg)) (fun wq v wq1 hw h => ?_))
        obtain ⟨rfl, hO⟩ := h
        refine ⟨_, hw.call0 hO, ?_⟩
        refine x_nf (L' := [bl _ _ #[_, _, _, _, _]]) rfl ?_
        refine x_bool (fun h33 => ?_) (fun h33 => ?_)
        · refine x_op rfl (x_val (r_pick_f rfl rfl) rfl ?_)
          refine x_nil ?_
          refine x_true rfl ?_
          refine x_seq ?_
          refine x_region ?_
          refine x_op rfl (x_val (r_assign rfl) rfl ?_)
          refine x_nil ?_
          refine x_ret ?_
          -- path FFFT
          exact x_ret1 rfl rfl fun w1 hO => ⟨_, rfl, _, rfl, ⟨fun h => (by cases h), fun h => by have := h.tags; rw [this] at h33; cases h33⟩, hO.none_⟩
        · refine x_op rfl (x_val (r_pick_f rfl rfl) rfl ?_)
          refine x_nil ?_
          refine x_false rfl ?_
          refine x_skip ?_
          refine x_seq ?_
          refine x_seq ?_
          refine x_region ?_
          refine x_op rfl (x_val (r_fieldAddr Ty.q29_2 rfl) rfl ?_)
          refine x_op rfl (x_val (r_own_add (i := 0) Ty.z25 rfl rfl rfl) rfl ?_)
          refine x_op rfl (x_val (r_len_slice Tryd.underlying25 rfl) rfl ?_)
          refine x_op rfl (x_val (r_move rfl) rfl ?_)
          refine x_nil ?_
          refine x_block ?_
          refine x_loopP (σ := Nat) [1, 36, 37] [0] (fun s => [(38, .int .i64 s)]) (fun s => []) (fun s => s ≤ vs.length ∧ ∀ xs ∈ chs.take s, xs.length ≤ 4096 ∧ (xs.length : Int) = lenF vs) (fun s => vs.length - s) (0) (by repeat (first | exact trivial | refine ⟨rfl, ?_⟩)) (fun _ h => h.pick_ [0] (by decide)) ⟨Nat.zero_le _, fun xs hx => by simp at hx⟩ ?_
          rintro s ⟨hi, hall⟩
          refine x_nfe (e' := [_, _, _, _]) (L' := [bl _ _ #[_, _, _, _, _]]) rfl rfl ?_
          refine x_seq ?_
          refine x_region ?_
          refine x_op rfl (x_val (r_lss rfl rfl rfl) rfl (x_dec (fun h39 => ?_) (fun h39 => ?_)))
          · refine x_nil ?_
            refine x_seq ?_
            refine x_true rfl ?_
            refine x_skip ?_
            refine x_seq ?_
            refine x_block ?_
            refine x_seq ?_
            refine x_region ?_
            have hlt : s < vs.length := by omega
            have hv : vs[s]? = some (vs[s]'hlt) := List.getElem?_eq_getElem hlt
            generalize vs[s]'hlt = v at hv
            have hx : chs[s]? = some (chs[s]'(by omega)) := List.getElem?_eq_getElem _
            generalize chs[s]'(by omega) = xs at hx
            obtain ⟨hv1, hv2, hv3, hv4⟩ := hch.2 s v xs hv hx
            obtain ⟨ad, rfl⟩ := hC.some_ (by omega)
            refine x_op rfl (x_val (r_indexAddr Tryd.underlying25 Ty.i41 rfl rfl ⟨by omega, by omega⟩) rfl ?_)
            refine x_op rfl (x_val (r_load1 (v := .slice v.1 v.2.1 v.2.2) Ty.z41 rfl (fun w hS => (hS.rd0 hC).cell_ (k := s) (j := 0) hlt (by omega) rfl (slcs_get hv))) rfl ?_)
            refine x_op rfl (x_val (r_assign rfl) rfl ?_)
            refine x_nil ?_
            refine x_seq ?_
            refine x_region ?_
            refine x_op rfl (x_val (r_move rfl) rfl ?_)
            refine x_op rfl (x_val (r_len_slice Tryd.underlying41 rfl) rfl ?_)
            refine x_op rfl (x_val (r_gtr rfl rfl rfl) rfl (x_dec (fun h44 => ?_) (fun h44 => ?_)))
            · refine x_op rfl (x_val (r_move rfl) rfl ?_)
              refine x_off rfl rfl ?_
              refine x_off rfl rfl ?_
              refine x_off rfl rfl ?_
              refine x_off rfl rfl ?_
              refine x_off rfl rfl ?_
              refine x_op rfl (x_val (r_pick_t rfl rfl) rfl ?_)
              refine x_nil ?_
              refine x_true rfl ?_
              refine x_seq ?_
              refine x_region ?_
              refine x_op rfl (x_val (r_assign rfl) rfl ?_)
              refine x_nil ?_
              refine x_ret ?_
              -- path FFFFTT
              exact x_ret1 rfl rfl fun w1 hO => ⟨_, rfl, _, rfl, ⟨fun h => (by cases h), fun h => by have := (h.len xs (List.mem_of_getElem? hx)).1; omega⟩, hO.none_⟩
            · refine x_op rfl (x_val (r_move rfl) rfl ?_)
              refine x_op rfl (x_val (r_move rfl) rfl ?_)
              refine x_op rfl (x_val (r_len_slice Tryd.underlying41 rfl) rfl ?_)
              refine x_op rfl (x_val (r_ownN (i := 0) Ty.z29 rfl rfl rfl) rfl ?_)
              refine x_op rfl (s_call Ty.c28 rfl rfl (fun w hw => length_ ch dp rt (.slice T ts.length ct) (some ad) cc vs w rfl (hw.rd0 hC)) (fun wq v wq1 hw h => ?_))
              obtain ⟨rfl, hO⟩ := h
              refine ⟨_, hw.call0 hO, ?_⟩
              refine x_nf (L' := [bl _ _ #[_, _, _, _, _]]) rfl ?_
              refine x_op rfl (x_val (r_neq rfl rfl rfl) rfl (x_dec (fun h50 => ?_) (fun h50 => ?_)))
              · refine x_op rfl (x_val (r_pick_f rfl rfl) rfl ?_)
                refine x_nil ?_
                refine x_true rfl ?_
                refine x_seq ?_
                refine x_region ?_
                refine x_op rfl (x_val (r_assign rfl) rfl ?_)
                refine x_nil ?_
                refine x_ret ?_
                -- path FFFFTFT
                exact x_ret1 rfl rfl fun w1 hO => ⟨_, rfl, _, rfl, ⟨fun h => (by cases h), fun h => by have := (h.len xs (List.mem_of_getElem? hx)).2; omega⟩, hO.none_⟩
              · refine x_op rfl (x_val (r_pick_f rfl rfl) rfl ?_)
                refine x_nil ?_
                refine x_false rfl ?_
                refine x_skip ?_
                refine x_region ?_
                refine x_op rfl (x_val (r_add rfl rfl ⟨by omega, by omega⟩) rfl ?_)
                refine x_op rfl (x_val (r_move rfl) rfl ?_)
                refine x_nil ?_
                refine x_again (s + 1) (by repeat (first | exact trivial | refine ⟨rfl, ?_⟩)) (fun _ h => h.pick_ [0] (by decide)) ⟨by omega, fun ys hy => by
                    rw [List.take_add_one, hx] at hy
                    simp only [Option.toList_some, List.mem_append, List.mem_singleton] at hy
                    rcases hy with hy | rfl
                    · exact hall ys hy
                    · omega⟩ (by omega)
          · refine x_nil ?_
            refine x_seq ?_
            refine x_false rfl ?_
            refine x_exit rfl ?_
            refine x_seq ?_
            refine x_seq ?_
            have hsl : s = vs.length := by omega
            subst hsl
            rw [hlen, List.take_length] at hall
            refine x_region ?_
            refine x_op rfl (x_val (r_fieldAddr Ty.q29_2 rfl) rfl ?_)
            refine x_op rfl (x_val (r_own_add (i := 0) Ty.z25 rfl rfl rfl) rfl ?_)
            refine x_op rfl (x_val (r_len_slice Tryd.underlying25 rfl) rfl ?_)
            refine x_op rfl (x_val (r_move rfl) rfl ?_)
            refine x_nil ?_
            refine x_block ?_
            refine x_loopP (σ := Nat) [1, 54, 55] [0] (fun s => [(56, .int .i64 s)]) (fun s => []) (fun s => s ≤ vs.length ∧ ∀ xs ∈ chs.take s, ∀ x ∈ xs, fits dp x) (fun s => vs.length - s) (0) (by repeat (first | exact trivial | refine ⟨rfl, ?_⟩)) (fun _ h => h.pick_ [0] (by decide)) ⟨Nat.zero_le _, fun xs hx => by simp at hx⟩ ?_
            rintro s ⟨hi, hfit⟩
            refine x_nfe (e' := [_, _, _, _]) (L' := [bl _ _ #[_, _, _, _, _]]) rfl rfl ?_
            refine x_seq ?_
            refine x_region ?_
            refine x_op rfl (x_val (r_lss rfl rfl rfl) rfl (x_dec (fun h57 => ?_) (fun h57 => ?_)))
            · refine x_nil ?_
              refine x_seq ?_
              refine x_true rfl ?_
              refine x_skip ?_
              refine x_seq ?_
              refine x_block ?_
              refine x_seq ?_
              refine x_region ?_
              have hlt : s < vs.length := by omega
              have hv : vs[s]? = some (vs[s]'hlt) := List.getElem?_eq_getElem hlt
              generalize vs[s]'hlt = v at hv
              have hx : chs[s]? = some (chs[s]'(by omega)) := List.getElem?_eq_getElem _
              generalize chs[s]'(by omega) = xs at hx
              obtain ⟨hv1, hv2, hv3, hv4⟩ := hch.2 s v xs hv hx
              have hl4 := (hall xs (List.mem_of_getElem? hx)).1
              obtain ⟨ad, rfl⟩ := hC.some_ (by omega)
              refine x_op rfl (x_val (r_indexAddr Tryd.underlying25 Ty.i41 rfl rfl ⟨by omega, by omega⟩) rfl ?_)
              refine x_op rfl (x_val (r_load1 (v := .slice v.1 v.2.1 v.2.2) Ty.z41 rfl (fun w hS => (hS.rd0 hC).cell_ (k := s) (j := 0) hlt (by omega) rfl (slcs_get hv))) rfl ?_)
              refine x_op rfl (x_val (r_assign rfl) rfl ?_)
              refine x_nil ?_
              refine x_seq ?_
              refine x_region ?_
              refine x_op rfl (x_val (r_move rfl) rfl ?_)
              refine x_op rfl (x_val (r_len_slice Tryd.underlying41 rfl) rfl ?_)
              refine x_op rfl (x_val (r_move rfl) rfl ?_)
              refine x_nil ?_
              refine x_block ?_
              refine x_loopP (σ := Nat) [1, 54, 55, 56, 60, 61] [0] (fun k => [(62, .int .i64 k)]) (fun k => []) (fun k => k ≤ xs.length ∧ ∀ x ∈ xs.take k, fits dp x) (fun k => xs.length - k) (0) (by repeat (first | exact trivial | refine ⟨rfl, ?_⟩)) (fun _ h => h.pick_ [0] (by decide)) ⟨Nat.zero_le _, fun x hx => by simp at hx⟩ ?_
              rintro k ⟨hk, hfk⟩
              refine x_nfe (e' := [_, _, _, _, _, _, _]) (L' := [bl _ _ #[_, _, _, _, _]]) rfl rfl ?_
              refine x_seq ?_
              refine x_region ?_
              refine x_op rfl (x_val (r_lss rfl rfl rfl) rfl (x_dec (fun h63 => ?_) (fun h63 => ?_)))
              · refine x_nil ?_
                refine x_seq ?_
                refine x_true rfl ?_
                refine x_skip ?_
                refine x_seq ?_
                refine x_block ?_
                refine x_seq ?_
                refine x_region ?_
                have hkl : k < xs.length := by omega
                have hxk : xs[k]? = some (xs[k]'hkl) := List.getElem?_eq_getElem hkl
                generalize xs[k]'hkl = x at hxk
                obtain ⟨v1, v2, v3⟩ := v
                simp only [] at hv1 hv2 hv3 hv4
                obtain ⟨ad2, rfl⟩ := hv4.some_ (by omega)
                refine x_op rfl (x_val (r_indexAddr Tryd.underlying41 Ty.i3 rfl rfl ⟨by omega, by omega⟩) rfl ?_)
                refine x_op rfl (x_val (r_load1 (v := .int .i64 x) Ty.z3 rfl (fun w hS => (hS.rd0 hv4).cell_ (k := k) (j := 0) (by omega) (by omega) rfl (ints_get hxk))) rfl ?_)
                refine x_op rfl (x_val (r_assign rfl) rfl ?_)
                refine x_nil ?_
                refine x_seq ?_
                refine x_region ?_
                refine x_op rfl (x_val (r_move rfl) rfl ?_)
                refine x_op rfl (x_val (r_fieldAddr Ty.q29_0 rfl) rfl ?_)
                refine x_op rfl (x_val (r_fieldAddr Ty.q23_1 rfl) rfl ?_)
                refine x_op rfl (x_val (r_own_add (i := 0) Ty.z3 rfl rfl rfl) rfl ?_)
                have hsh : 1 ≤ ch ∧ ch ≤ 2 ∧ 4 ≤ dp ∧ dp ≤ 24 ∧ 1 ≤ rt ∧ rt ≤ 655350 := by
                  unfold fcheck at h15
                  by_cases hh : 1 ≤ ch ∧ ch ≤ 2 ∧ 4 ≤ dp ∧ dp ≤ 24 ∧ 1 ≤ rt ∧ rt ≤ 655350
                  · exact hh
                  · rw [if_neg hh] at h15; exact absurd (by decide) h15
                refine x_op rfl (x_val (r_sub rfl rfl ⟨by omega, by omega⟩) rfl ?_)
                refine x_op rfl (x_val (r_shr (2 ^ (dp - 1).toNat) rfl rfl rfl ⟨by omega, by omega⟩) rfl ?_)
                refine x_op rfl (x_val (r_assign rfl) rfl ?_)
                refine x_nil ?_
                refine x_seq ?_
                refine x_region ?_
                refine x_op rfl (x_val (r_move rfl) rfl ?_)
                refine x_op rfl (x_val (r_neq rfl rfl rfl) rfl (x_dec (fun h73 => ?_) (fun h73 => ?_)))
                · refine x_op rfl (x_val (r_move rfl) rfl ?_)
                  refine x_op rfl (x_val (r_move rfl) rfl ?_)
                  refine x_op rfl (x_val (r_neq rfl rfl rfl) rfl (x_dec (fun h76 => ?_) (fun h76 => ?_)))
                  · refine x_op rfl (x_val (r_pick_t rfl rfl) rfl ?_)
                    refine x_nil ?_
                    refine x_true rfl ?_
                    refine x_seq ?_
                    refine x_region ?_
                    refine x_op rfl (x_val (r_assign rfl) rfl ?_)
                    refine x_nil ?_
                    refine x_ret ?_
                    -- path FFFFFTTTT
                    exact x_ret1 rfl rfl fun w1 hO => ⟨_, rfl, _, rfl, ⟨fun h => (by cases h), fun h => by
                      rcases h.fit xs (List.mem_of_getElem? hx) x (List.mem_of_getElem? hxk) with h1 | h1
                      · exact absurd h1 h73
                      · exact absurd h1 h76⟩, hO.none_⟩
                  · refine x_op rfl (x_val (r_pick_t rfl rfl) rfl ?_)
                    refine x_nil ?_
                    refine x_false rfl ?_
                    refine x_skip ?_
                    refine x_region ?_
                    refine x_op rfl (x_val (r_add rfl rfl ⟨by omega, by omega⟩) rfl ?_)
                    refine x_op rfl (x_val (r_move rfl) rfl ?_)
                    refine x_nil ?_
                    refine x_again (k + 1) (by repeat (first | exact trivial | refine ⟨rfl, ?_⟩)) (fun _ h => h.pick_ [0] (by decide)) ⟨by omega, fun y hy => by
                        rw [List.take_add_one, hxk] at hy
                        simp only [Option.toList_some, List.mem_append, List.mem_singleton] at hy
                        rcases hy with hy | rfl
                        · exact hfk y hy
                        · exact .inr (Decidable.byContradiction h76)⟩ (by omega)
                · refine x_op rfl (x_val (r_move rfl) rfl ?_)
                  refine x_off rfl rfl ?_
                  refine x_off rfl rfl ?_
                  refine x_op rfl (x_val (r_pick_f rfl rfl) rfl ?_)
                  refine x_nil ?_
                  refine x_false rfl ?_
                  refine x_skip ?_
                  refine x_region ?_
                  refine x_op rfl (x_val (r_add rfl rfl ⟨by omega, by omega⟩) rfl ?_)
                  refine x_op rfl (x_val (r_move rfl) rfl ?_)
                  refine x_nil ?_
                  refine x_again (k + 1) (by repeat (first | exact trivial | refine ⟨rfl, ?_⟩)) (fun _ h => h.pick_ [0] (by decide)) ⟨by omega, fun y hy => by
                      rw [List.take_add_one, hxk] at hy
                      simp only [Option.toList_some, List.mem_append, List.mem_singleton] at hy
                      rcases hy with hy | rfl
                      · exact hfk y hy
                      · exact .inl (Decidable.byContradiction h73)⟩ (by omega)
              · refine x_nil ?_
                refine x_seq ?_
                refine x_false rfl ?_
                refine x_exit rfl ?_
                refine x_region ?_
                refine x_op rfl (x_val (r_add rfl rfl ⟨by omega, by omega⟩) rfl ?_)
                refine x_op rfl (x_val (r_move rfl) rfl ?_)
                refine x_nil ?_
                refine x_again (s + 1) (by repeat (first | exact trivial | refine ⟨rfl, ?_⟩)) (fun _ h => h.pick_ [0] (by decide)) ⟨by omega, fun ys hy => by
                    rw [List.take_add_one, hx] at hy
                    simp only [Option.toList_some, List.mem_append, List.mem_singleton] at hy
                    rcases hy with hy | rfl
                    · exact hfit ys hy
                    · intro x hx'
                      have hkl : k = ys.length := by omega
                      rw [hkl, List.take_length] at hfk
                      exact hfk x hx'⟩ (by omega)
            · refine x_nil ?_
              refine x_seq ?_
              refine x_false rfl ?_
              refine x_exit rfl ?_
              refine x_seq ?_
              refine x_region ?_
              refine x_op rfl (x_val (r_assign rfl) rfl ?_)
              refine x_nil ?_
              refine x_ret ?_
              -- path FFFFFF
              exact x_ret1 rfl rfl fun w1 hO => ⟨_, rfl, _, rfl, ⟨fun _ => by
                have hsl : s = chs.length := by omega
                rw [hsl, List.take_length] at hfit
                have hsh : 1 ≤ ch ∧ ch ≤ 2 ∧ 4 ≤ dp ∧ dp ≤ 24 ∧ 1 ≤ rt ∧ rt ≤ 655350 := by
                  unfold fcheck at h15
                  by_cases hh : 1 ≤ ch ∧ ch ≤ 2 ∧ 4 ≤ dp ∧ dp ≤ 24 ∧ 1 ≤ rt ∧ rt ≤ 655350
                  · exact hh
                  · rw [if_neg hh] at h15; exact absurd (by decide) h15
                exact ⟨hsh, by omega, by simpa using h33, by omega, fun xs hx => by have := hall xs hx; omega, hfit⟩, fun _ => rfl⟩, hO.none_⟩
end Go.Proofs.YtlpoepmipbegaaaDoor.Wv
