/- tune: the track again, in memory of its own. -/
import Derived.Test.YtlpoepmipbegaaaDoorV19
set_option linter.unusedVariables false
set_option linter.unusedSimpArgs false
namespace Go.Proofs.YtlpoepmipbegaaaDoor.Wv
open Go Go.RowKit Go.Proofs.YtlpoepmipbegaaaDoor.En
section
variable {P : Program} {n : Nat} {w0 : World} {F : List Nat} {e : Env} {L : List Asn} {Q : Exit → Act → World → Prop} {N : Cont} {ty : TypeId} {pos : String} {af : Array Edge} {g : Option (Nat × Bool)}
theorem s_appendNil {d : Nat} {x y : Operand} {i t el size bytes cap k c : Nat} {A B : Option Addr} {z : Value} {news : List Value} (ht : P.underlying t = some (.slice el)) (hel : (P.info? el).map (fun i => (i.zero, i.size, i.bytes)) = some (some z, size, bytes)) (hz : z.cells.size = size) (hs0 : 0 < size)
    (hx : ev e x = some (.slice A 0 cap)) (hy : ev e y = some (.slice B k c)) (hd : Nat.blt d n = true) (hi : L[i]? = some (sl A cap el size [])) (hk : SlOk A 0 cap size []) (hr : ∀ w, Own w0 F L w → Rd w B k size news) (h1 : ∀ u ∈ news, u.oneCell' = true) (hm : k ≤ maxLen) (hby : k * bytes ≤ 140737488355328)
    (h : ∀ A' cap', SlOk A' k cap' size news → At n w0 F N ((d, .slice A' k cap') :: e) (L.set i (sl A' cap' el size news))) :
    At n w0 F (Pw P ⟨some d, .call { callee := .builtin .append, args := #[x, y], argTypes := #[t, t] }, ty, pos, af, g⟩ N Q) e L := by
  refine s_append ht hel hz hs0 hx hy hd hi hk hr h1 (by omega) (by rw [Nat.zero_add]; exact hby) fun A' cap' h' => ?_
  rw [Nat.zero_add] at h' ⊢
  exact h A' cap' h'
end
theorem strs_one (ts : List ByteArray) : ∀ u ∈ strs ts, u.oneCell' = true := fun u hu => by
  obtain ⟨t, _, rfl⟩ := List.mem_map.1 hu; rfl
theorem ints_one (xs : List Int) : ∀ u ∈ ints xs, u.oneCell' = true := fun u hu => by
  obtain ⟨t, _, rfl⟩ := List.mem_map.1 hu; rfl
theorem slcs_snoc (us : List Sv) (A : Option Addr) (n c : Nat) : slcs (us ++ [(A, n, c)]) = slcs us ++ [.slice A n c] := by simp [slcs]
structure TS where
  i : Nat
  M : Option Addr
  cM : Nat
  us : List Sv
  Z : List Asn
set_option maxHeartbeats 2000000 in
set_option maxRecDepth 20000 in
theorem tune_ (ch dp rt : Int) (T C : Option Addr) (m n ct cc : Nat) (ts : List ByteArray) (vs : List Sv) (chs : List (List Int)) (w : World) (hn : n = vs.length) (hT : Rd w T m 1 (strs ts)) (hC : Rd w C n 1 (slcs vs)) (hch : ChOk w vs chs) (hm : m ≤ 2000000) (hn2 : n ≤ 2000000) (hvb : ∀ v ∈ vs, v.2.1 ≤ 2000000) :
    Calls Tryd.prog 5 #[.agg #[.int .i64 ch, .int .i64 dp, .int .i64 rt, .slice T m ct, .slice C n cc]] w fun en w1 => ∃ r, en = .returned r ∧ ∃ T' ct' M cM us Z, r = .agg #[.int .i64 ch, .int .i64 dp, .int .i64 rt, .slice T' m ct', .slice M n cM] ∧
      SlOk T' m ct' 1 (strs ts) ∧ n = us.length ∧ SlOk M n cM 1 (slcs us) ∧ ZOk Z us chs ∧ Own w [] (sl T' ct' 9 1 (strs ts) :: sl M cM 41 1 (slcs us) :: Z) w1 := by
  have hlen := hch.1
  refine fn_enter (args := [_]) (F := []) Tryd.func5 rfl rfl rfl ?_
  refine x_seq ?_
  refine x_region ?_
  refine x_op rfl (s_box rfl rfl fun b1 hb1 => ?_)
  refine x_op rfl (s_alloc Ty.i29 rfl fun b2 hb2 => ?_)
  refine x_nil ?_
  refine x_cutP (σ := Nat × Option Addr × Nat) [1, 2] [0, 1] (fun s => [(3, .pointer (me s.1))]) (fun s => [bl s.1 29 #[.int .i64 ch, .int .i64 dp, .int .i64 rt, .slice s.2.1 m s.2.2, .slice none 0 0], sl s.2.1 s.2.2 9 1 (strs ts)]) (fun s => SlOk s.2.1 m s.2.2 1 (strs ts)) ?_ ?_
  · refine x_textP [0, 1] (by kernel_rfl) (by decide) ?_
    refine x_tk rfl (r_fieldAddr Ty.q27_0 rfl) rfl (fun _ h => h.pick_ [0, 1] (by decide)) ?_
    refine x_tk rfl (r_own_at (i := 1) Ty.z23 rfl rfl rfl rfl) rfl (fun _ h => h.pick_ [0, 1] (by decide)) ?_
    refine x_tany ?_
    refine x_take 3 rfl (by kernel_rfl) rfl (r_fieldAddr Ty.q27_1 rfl) rfl (fun _ h => h.pick_ [0, 1] (by decide)) ?_
    refine x_take 4 rfl (by kernel_rfl) rfl (r_own_add (i := 1) Ty.z24 rfl rfl rfl) rfl (fun _ h => h.pick_ [0, 1] (by decide)) ?_
    refine x_all [2, 7] (by kernel_rfl) ⟨?_, ?_, trivial⟩
    · refine x_do rfl rfl (s_buildNil Tryd.underlying24 Ty.i9 rfl rfl fun b7 hb7 => x_and (fun _ h => h.pick_ [1, 2] (by decide)) ?_)
      refine x_all [5, 7] (by kernel_rfl) ⟨?_, ?_, trivial⟩
      · refine x_do rfl rfl (s_appendNil (i := 0) (news := strs ts) Tryd.underlying24 Ty.i9 rfl (by decide) rfl rfl rfl rfl (SlOk.made (by simp) (Nat.le_refl _) (by simp [maxLen])) (fun w hO => hO.rd0 hT) (strs_one ts) (by simp only [maxLen]; omega) (by omega) fun A2 c2 hA2 => x_and (fun _ h => h.pick_ [1, 2] (by decide)) ?_)
        refine x_take 6 rfl (by kernel_rfl) rfl (r_build Ty.i29 Ty.p29 rfl rfl) rfl (fun _ h => h.pick_ [1, 2] (by decide)) ?_
        refine x_all [7] (by kernel_rfl) ⟨?_, trivial⟩
        refine x_do rfl rfl (s_alloc Ty.i29 rfl fun b3 hb3 => x_and (fun _ h => h.pick_ [2, 3] (by decide)) ?_)
        refine x_all [8] (by kernel_rfl) ⟨?_, trivial⟩
        refine x_do rfl rfl (s_store (i := 0) Ty.z29 rfl rfl rfl rfl rfl rfl (x_and (fun _ h => h.pick_ [2, 3] (by decide)) ?_))
        refine x_nf (L' := [bl _ _ #[_, _, _, _, _], _, bl _ _ #[_, _, _, _, _], bl _ _ #[_, _, _, _, _]]) rfl ?_
        refine x_done (by kernel_rfl) ?_
        refine x_there ((b3, A2, c2)) (by repeat (first | exact trivial | refine ⟨rfl, ?_⟩)) (fun _ h => h.pick_ [0, 1, 2, 3] (by decide)) hA2
      · refine x_do rfl rfl (s_alloc Ty.i29 rfl fun b3 hb3 => x_and (fun _ h => h.pick_ [2, 3] (by decide)) ?_)
        refine x_all [5] (by kernel_rfl) ⟨?_, trivial⟩
        refine x_do rfl rfl (s_appendNil (i := 1) (news := strs ts) Tryd.underlying24 Ty.i9 rfl (by decide) rfl rfl rfl rfl (SlOk.made (by simp) (Nat.le_refl _) (by simp [maxLen])) (fun w hO => hO.rd0 hT) (strs_one ts) (by simp only [maxLen]; omega) (by omega) fun A2 c2 hA2 => x_and (fun _ h => h.pick_ [2, 3] (by decide)) ?_)
        refine x_take 6 rfl (by kernel_rfl) rfl (r_build Ty.i29 Ty.p29 rfl rfl) rfl (fun _ h => h.pick_ [2, 3] (by decide)) ?_
        refine x_all [8] (by kernel_rfl) ⟨?_, trivial⟩
        refine x_do rfl rfl (s_store (i := 0) Ty.z29 rfl rfl rfl rfl rfl rfl (x_and (fun _ h => h.pick_ [2, 3] (by decide)) ?_))
        refine x_nf (L' := [bl _ _ #[_, _, _, _, _], _, bl _ _ #[_, _, _, _, _], bl _ _ #[_, _, _, _, _]]) rfl ?_
        refine x_done (by kernel_rfl) ?_
        refine x_there ((b3, A2, c2)) (by repeat (first | exact trivial | refine ⟨rfl, ?_⟩)) (fun _ h => h.pick_ [0, 1, 2, 3] (by decide)) hA2
    · refine x_do rfl rfl (s_alloc Ty.i29 rfl fun b3 hb3 => x_and (fun _ h => h.pick_ [1, 2] (by decide)) ?_)
      refine x_all [2] (by kernel_rfl) ⟨?_, trivial⟩
      refine x_do rfl rfl (s_buildNil Tryd.underlying24 Ty.i9 rfl rfl fun b7 hb7 => x_and (fun _ h => h.pick_ [2, 3] (by decide)) ?_)
      refine x_all [5] (by kernel_rfl) ⟨?_, trivial⟩
      refine x_do rfl rfl (s_appendNil (i := 0) (news := strs ts) Tryd.underlying24 Ty.i9 rfl (by decide) rfl rfl rfl rfl (SlOk.made (by simp) (Nat.le_refl _) (by simp [maxLen])) (fun w hO => hO.rd0 hT) (strs_one ts) (by simp only [maxLen]; omega) (by omega) fun A2 c2 hA2 => x_and (fun _ h => h.pick_ [2, 3] (by decide)) ?_)
      refine x_take 6 rfl (by kernel_rfl) rfl (r_build Ty.i29 Ty.p29 rfl rfl) rfl (fun _ h => h.pick_ [2, 3] (by decide)) ?_
      refine x_all [8] (by kernel_rfl) ⟨?_, trivial⟩
      refine x_do rfl rfl (s_store (i := 1) Ty.z29 rfl rfl rfl rfl rfl rfl (x_and (fun _ h => h.pick_ [2, 3] (by decide)) ?_))
      refine x_nf (L' := [_, bl _ _ #[_, _, _, _, _], bl _ _ #[_, _, _, _, _], bl _ _ #[_, _, _, _, _]]) rfl ?_
      refine x_done (by kernel_rfl) ?_
      refine x_there ((b3, A2, c2)) (by repeat (first | exact trivial | refine ⟨rfl, ?_⟩)) (fun _ h => h.pick_ [1, 0, 2, 3] (by decide)) hA2
  · rintro ⟨b3, T1, ct1⟩ hT1
    refine x_nfe (e' := [_, _, _]) (L' := [_, _, bl _ _ #[_, _, _, _, _], bl _ _ #[_, _, _, _, _]]) rfl rfl ?_
    refine x_seq ?_
    refine x_seq ?_
    refine x_heap (L' := sl none 0 41 1 [] :: _) (fun w hO => hO.nilsl 41 1) ?_
    refine x_region ?_
    refine x_op rfl (x_val (r_assign rfl) rfl ?_)
    refine x_nil ?_
    refine x_block ?_
    refine x_loopT (σ := TS) [1, 2, 3] [2, 3, 4] (fun s => [(4, .int .i64 s.i)]) (fun s => [bl b3 29 #[.int .i64 ch, .int .i64 dp, .int .i64 rt, .slice T1 m ct1, .slice s.M s.us.length s.cM], sl s.M s.cM 41 1 (slcs s.us)]) (fun s => s.Z) (fun s => s.i ≤ n ∧ s.us.length = s.i ∧ SlOk s.M s.us.length s.cM 1 (slcs s.us) ∧ ZOk s.Z s.us (chs.take s.i)) (fun s => n - s.i) (TS.mk 0 none 0 [] []) (by repeat (first | exact trivial | refine ⟨rfl, ?_⟩)) (fun _ h => h.pick_ [1, 0, 2, 3, 4] (by decide)) ⟨Nat.zero_le _, rfl, SlOk.nil_ 1, ⟨by simp, fun i v xs h => by cases h⟩⟩ ?_
    rintro ⟨i, M, cM, us, Z⟩ ⟨hi, hul, hM, hZ⟩; simp only [] at hi hul hM hZ ⊢
    refine x_nfe (e' := [_, _, _, _]) (L' := _ :: _ :: _ :: bl _ _ #[_, _, _, _, _] :: bl _ _ #[_, _, _, _, _] :: _) rfl rfl ?_
    refine x_seq ?_
    refine x_seq ?_
    refine x_region ?_
    refine x_op rfl (x_val (r_move rfl) rfl ?_)
    refine x_op rfl (x_val (r_fieldAddr Ty.q27_2 rfl) rfl ?_)
    refine x_op rfl (x_val (r_own_add (i := 4) Ty.z25 rfl rfl rfl) rfl ?_)
    refine x_op rfl (x_val (r_len_slice Tryd.underlying25 rfl) rfl ?_)
    refine x_op rfl (x_val (r_lss rfl rfl rfl) rfl (x_dec (fun h16 => ?_) (fun h16 => ?_)))
    · refine x_nil ?_
      refine x_true rfl ?_
      refine x_skip ?_
      refine x_seq ?_
      refine x_block ?_
      refine x_textP [2, 3, 4] (by kernel_rfl) (by decide) ?_
      have hlt : i < n := by omega
      have hv : vs[i]? = some (vs[i]'(by omega)) := List.getElem?_eq_getElem _
      generalize vs[i]'(by omega) = v at hv
      have hx : chs[i]? = some (chs[i]'(by omega)) := List.getElem?_eq_getElem _
      generalize chs[i]'(by omega) = xs at hx
      obtain ⟨hv1, hv2, hv3, hv4⟩ := hch.2 i v xs hv hx
      have hvb1 := hvb v (List.mem_of_getElem? hv)
      have htk : chs.take (i + 1) = chs.take i ++ [xs] := by rw [List.take_add_one, hx]; rfl
      obtain ⟨ad, rfl⟩ := hC.some_ (by omega)
      refine x_tk rfl (r_fieldAddr Ty.q29_2 rfl) rfl (fun _ h => h.pick_ [2, 3, 4] (by decide)) ?_
      refine x_tany ?_
      refine x_take 2 rfl (by kernel_rfl) rfl (r_fieldAddr Ty.q27_2 rfl) rfl (fun _ h => h.pick_ [2, 3, 4] (by decide)) ?_
      refine x_take 3 rfl (by kernel_rfl) rfl (r_own_add (i := 2) Ty.z25 rfl rfl rfl) rfl (fun _ h => h.pick_ [2, 3, 4] (by decide)) ?_
      refine x_take 4 rfl (by kernel_rfl) rfl (r_move rfl) rfl (fun _ h => h.pick_ [2, 3, 4] (by decide)) ?_
      refine x_take 5 rfl (by kernel_rfl) rfl (r_indexAddr Tryd.underlying25 Ty.i41 rfl rfl ⟨by omega, by omega⟩) rfl (fun _ h => h.pick_ [2, 3, 4] (by decide)) ?_
      refine x_take 6 rfl (by kernel_rfl) rfl (r_load1 (v := .slice v.1 v.2.1 v.2.2) Ty.z41 rfl (fun w hS => (hS.rd0 hC).cell_ (k := i) (j := 0) (by omega) (by omega) rfl (slcs_get hv))) rfl (fun _ h => h.pick_ [2, 3, 4] (by decide)) ?_
      refine x_take 7 rfl (by kernel_rfl) rfl (r_len_slice Tryd.underlying41 rfl) rfl (fun _ h => h.pick_ [2, 3, 4] (by decide)) ?_
      refine x_take 8 rfl (by kernel_rfl) rfl (r_add rfl rfl ⟨by omega, by omega⟩) rfl (fun _ h => h.pick_ [2, 3, 4] (by decide)) ?_
      refine x_take 10 rfl (by kernel_rfl) rfl (r_fieldAddr Ty.q27_2 rfl) rfl (fun _ h => h.pick_ [2, 3, 4] (by decide)) ?_
      refine x_take 11 rfl (by kernel_rfl) rfl (r_own_add (i := 2) Ty.z25 rfl rfl rfl) rfl (fun _ h => h.pick_ [2, 3, 4] (by decide)) ?_
      refine x_take 12 rfl (by kernel_rfl) rfl (r_move rfl) rfl (fun _ h => h.pick_ [2, 3, 4] (by decide)) ?_
      refine x_take 13 rfl (by kernel_rfl) rfl (r_indexAddr Tryd.underlying25 Ty.i41 rfl rfl ⟨by omega, by omega⟩) rfl (fun _ h => h.pick_ [2, 3, 4] (by decide)) ?_
      refine x_take 14 rfl (by kernel_rfl) rfl (r_load1 (v := .slice v.1 v.2.1 v.2.2) Ty.z41 rfl (fun w hS => (hS.rd0 hC).cell_ (k := i) (j := 0) (by omega) (by omega) rfl (slcs_get hv))) rfl (fun _ h => h.pick_ [2, 3, 4] (by decide)) ?_
      refine x_all [1, 9] (by kernel_rfl) ⟨?_, ?_, trivial⟩
      · refine x_do rfl rfl (x_val (r_own_add (i := 0) Ty.z25 rfl rfl rfl) rfl (x_and (fun _ h => h.pick_ [2, 3, 4] (by decide)) ?_))
        refine x_all [9] (by kernel_rfl) ⟨?_, trivial⟩
        refine x_do rfl rfl (s_makeRoom (v.2.1 + 1) Tryd.underlying41 Ty.i3 rfl rfl rfl (by omega) ⟨by omega, by simp only [maxLen]; omega⟩ fun b28 hb28 hk28 => x_and (fun _ h => h.pick_ [3, 4, 5] (by decide)) ?_)
        refine x_all [15] (by kernel_rfl) ⟨?_, trivial⟩
        refine x_do rfl rfl (s_appendNil (i := 0) (news := ints xs) Tryd.underlying41 Ty.i3 rfl (by decide) rfl rfl rfl rfl hk28 (fun w hO => hO.rd0 hv4) (ints_one xs) (by simp only [maxLen]; omega) (by omega) fun A3 c3 hA3 => x_and (fun _ h => h.pick_ [3, 4, 5] (by decide)) ?_)
        refine x_all [16] (by kernel_rfl) ⟨?_, trivial⟩
        refine x_do rfl rfl (s_buildSlice Tryd.underlying25 Ty.i41 rfl rfl rfl rfl fun b35 hb35 => x_and (fun _ h => h.pick_ [4, 5, 6] (by decide)) ?_)
        refine x_all [17] (by kernel_rfl) ⟨?_, trivial⟩
        refine x_do rfl rfl (s_append (i := 3) (news := [.slice A3 v.2.1 c3]) Tryd.underlying25 Ty.i41 rfl (by decide) rfl rfl rfl rfl hM (fun w hO => hO.rd_bl (i := 0) rfl rfl (by simp [maxLen]) rfl) (fun u hu => by rw [List.mem_singleton.1 hu]; rfl) (by simp only [maxLen]; omega) (by omega) fun M2 cM2 hM2 => x_and (fun _ h => h.pick_ [4, 5, 6] (by decide)) ?_)
        refine x_take 18 rfl (by kernel_rfl) rfl (r_fieldAddr Ty.q29_2 rfl) rfl (fun _ h => h.pick_ [4, 5, 6] (by decide)) ?_
        refine x_all [19] (by kernel_rfl) ⟨?_, trivial⟩
        refine x_do rfl rfl (s_store (i := 2) Ty.z25 rfl rfl rfl rfl rfl rfl (x_and (fun _ h => h.pick_ [4, 5, 6] (by decide)) ?_))
        refine x_nf (L' := _ :: _ :: _ :: _ :: _ :: bl _ _ #[_, _, _, _, _] :: bl _ _ #[_, _, _, _, _] :: _) rfl ?_
        refine x_done (by kernel_rfl) ?_
        refine x_region ?_
        refine x_op rfl (x_val (r_move rfl) rfl ?_)
        refine x_op rfl (x_val (r_add rfl rfl ⟨by omega, by omega⟩) rfl ?_)
        refine x_op rfl (x_val (r_assign rfl) rfl ?_)
        refine x_nil ?_
        refine x_again (s := TS.mk i M cM us Z) (TS.mk (i + 1) M2 cM2 (us ++ [(A3, v.2.1, c3)]) (sl A3 c3 3 1 (ints xs) :: Z)) (by repeat (first | exact trivial | refine ⟨rfl, ?_⟩)) (fun _ h => by simp only [List.length_append, List.length_cons, List.length_nil, slcs_snoc]; exact Own.pickT (l := [_, _, _, _, _, _, _]) h [2, 3, 4, 5, 6, 1] (by decide)) ⟨by simp only []; omega, by simp [hul], by simp only [List.length_append, List.length_cons, List.length_nil, slcs_snoc]; exact hM2, by simp only [htk]; exact hZ.snoc (v := (A3, v.2.1, c3)) hv1 hA3⟩ (by simp only []; omega)
      · refine x_do rfl rfl (s_makeRoom (v.2.1 + 1) Tryd.underlying41 Ty.i3 rfl rfl rfl (by omega) ⟨by omega, by simp only [maxLen]; omega⟩ fun b28 hb28 hk28 => x_and (fun _ h => h.pick_ [3, 4, 5] (by decide)) ?_)
        refine x_all [1, 15] (by kernel_rfl) ⟨?_, ?_, trivial⟩
        · refine x_do rfl rfl (x_val (r_own_add (i := 1) Ty.z25 rfl rfl rfl) rfl (x_and (fun _ h => h.pick_ [3, 4, 5] (by decide)) ?_))
          refine x_all [15] (by kernel_rfl) ⟨?_, trivial⟩
          refine x_do rfl rfl (s_appendNil (i := 0) (news := ints xs) Tryd.underlying41 Ty.i3 rfl (by decide) rfl rfl rfl rfl hk28 (fun w hO => hO.rd0 hv4) (ints_one xs) (by simp only [maxLen]; omega) (by omega) fun A3 c3 hA3 => x_and (fun _ h => h.pick_ [3, 4, 5] (by decide)) ?_)
          refine x_all [16] (by kernel_rfl) ⟨?_, trivial⟩
          refine x_do rfl rfl (s_buildSlice Tryd.underlying25 Ty.i41 rfl rfl rfl rfl fun b35 hb35 => x_and (fun _ h => h.pick_ [4, 5, 6] (by decide)) ?_)
          refine x_all [17] (by kernel_rfl) ⟨?_, trivial⟩
          refine x_do rfl rfl (s_append (i := 3) (news := [.slice A3 v.2.1 c3]) Tryd.underlying25 Ty.i41 rfl (by decide) rfl rfl rfl rfl hM (fun w hO => hO.rd_bl (i := 0) rfl rfl (by simp [maxLen]) rfl) (fun u hu => by rw [List.mem_singleton.1 hu]; rfl) (by simp only [maxLen]; omega) (by omega) fun M2 cM2 hM2 => x_and (fun _ h => h.pick_ [4, 5, 6] (by decide)) ?_)
          refine x_take 18 rfl (by kernel_rfl) rfl (r_fieldAddr Ty.q29_2 rfl) rfl (fun _ h => h.pick_ [4, 5, 6] (by decide)) ?_
          refine x_all [19] (by kernel_rfl) ⟨?_, trivial⟩
          refine x_do rfl rfl (s_store (i := 2) Ty.z25 rfl rfl rfl rfl rfl rfl (x_and (fun _ h => h.pick_ [4, 5, 6] (by decide)) ?_))
          refine x_nf (L' := _ :: _ :: _ :: _ :: _ :: bl _ _ #[_, _, _, _, _] :: bl _ _ #[_, _, _, _, _] :: _) rfl ?_
          refine x_done (by kernel_rfl) ?_
          refine x_region ?_
          refine x_op rfl (x_val (r_move rfl) rfl ?_)
          refine x_op rfl (x_val (r_add rfl rfl ⟨by omega, by omega⟩) rfl ?_)
          refine x_op rfl (x_val (r_assign rfl) rfl ?_)
          refine x_nil ?_
          refine x_again (s := TS.mk i M cM us Z) (TS.mk (i + 1) M2 cM2 (us ++ [(A3, v.2.1, c3)]) (sl A3 c3 3 1 (ints xs) :: Z)) (by repeat (first | exact trivial | refine ⟨rfl, ?_⟩)) (fun _ h => by simp only [List.length_append, List.length_cons, List.length_nil, slcs_snoc]; exact Own.pickT (l := [_, _, _, _, _, _, _]) h [2, 3, 4, 5, 6, 1] (by decide)) ⟨by simp only []; omega, by simp [hul], by simp only [List.length_append, List.length_cons, List.length_nil, slcs_snoc]; exact hM2, by simp only [htk]; exact hZ.snoc (v := (A3, v.2.1, c3)) hv1 hA3⟩ (by simp only []; omega)
        · refine x_do rfl rfl (s_appendNil (i := 0) (news := ints xs) Tryd.underlying41 Ty.i3 rfl (by decide) rfl rfl rfl rfl hk28 (fun w hO => hO.rd0 hv4) (ints_one xs) (by simp only [maxLen]; omega) (by omega) fun A3 c3 hA3 => x_and (fun _ h => h.pick_ [3, 4, 5] (by decide)) ?_)
          refine x_all [1, 16] (by kernel_rfl) ⟨?_, ?_, trivial⟩
          · refine x_do rfl rfl (x_val (r_own_add (i := 1) Ty.z25 rfl rfl rfl) rfl (x_and (fun _ h => h.pick_ [3, 4, 5] (by decide)) ?_))
            refine x_all [16] (by kernel_rfl) ⟨?_, trivial⟩
            refine x_do rfl rfl (s_buildSlice Tryd.underlying25 Ty.i41 rfl rfl rfl rfl fun b35 hb35 => x_and (fun _ h => h.pick_ [4, 5, 6] (by decide)) ?_)
            refine x_all [17] (by kernel_rfl) ⟨?_, trivial⟩
            refine x_do rfl rfl (s_append (i := 3) (news := [.slice A3 v.2.1 c3]) Tryd.underlying25 Ty.i41 rfl (by decide) rfl rfl rfl rfl hM (fun w hO => hO.rd_bl (i := 0) rfl rfl (by simp [maxLen]) rfl) (fun u hu => by rw [List.mem_singleton.1 hu]; rfl) (by simp only [maxLen]; omega) (by omega) fun M2 cM2 hM2 => x_and (fun _ h => h.pick_ [4, 5, 6] (by decide)) ?_)
            refine x_take 18 rfl (by kernel_rfl) rfl (r_fieldAddr Ty.q29_2 rfl) rfl (fun _ h => h.pick_ [4, 5, 6] (by decide)) ?_
            refine x_all [19] (by kernel_rfl) ⟨?_, trivial⟩
            refine x_do rfl rfl (s_store (i := 2) Ty.z25 rfl rfl rfl rfl rfl rfl (x_and (fun _ h => h.pick_ [4, 5, 6] (by decide)) ?_))
            refine x_nf (L' := _ :: _ :: _ :: _ :: _ :: bl _ _ #[_, _, _, _, _] :: bl _ _ #[_, _, _, _, _] :: _) rfl ?_
            refine x_done (by kernel_rfl) ?_
            refine x_region ?_
            refine x_op rfl (x_val (r_move rfl) rfl ?_)
            refine x_op rfl (x_val (r_add rfl rfl ⟨by omega, by omega⟩) rfl ?_)
            refine x_op rfl (x_val (r_assign rfl) rfl ?_)
            refine x_nil ?_
            refine x_again (s := TS.mk i M cM us Z) (TS.mk (i + 1) M2 cM2 (us ++ [(A3, v.2.1, c3)]) (sl A3 c3 3 1 (ints xs) :: Z)) (by repeat (first | exact trivial | refine ⟨rfl, ?_⟩)) (fun _ h => by simp only [List.length_append, List.length_cons, List.length_nil, slcs_snoc]; exact Own.pickT (l := [_, _, _, _, _, _, _]) h [2, 3, 4, 5, 6, 1] (by decide)) ⟨by simp only []; omega, by simp [hul], by simp only [List.length_append, List.length_cons, List.length_nil, slcs_snoc]; exact hM2, by simp only [htk]; exact hZ.snoc (v := (A3, v.2.1, c3)) hv1 hA3⟩ (by simp only []; omega)
          · refine x_do rfl rfl (s_buildSlice Tryd.underlying25 Ty.i41 rfl rfl rfl rfl fun b35 hb35 => x_and (fun _ h => h.pick_ [4, 5, 6] (by decide)) ?_)
            refine x_all [1] (by kernel_rfl) ⟨?_, trivial⟩
            refine x_do rfl rfl (x_val (r_own_add (i := 2) Ty.z25 rfl rfl rfl) rfl (x_and (fun _ h => h.pick_ [4, 5, 6] (by decide)) ?_))
            refine x_all [17] (by kernel_rfl) ⟨?_, trivial⟩
            refine x_do rfl rfl (s_append (i := 3) (news := [.slice A3 v.2.1 c3]) Tryd.underlying25 Ty.i41 rfl (by decide) rfl rfl rfl rfl hM (fun w hO => hO.rd_bl (i := 0) rfl rfl (by simp [maxLen]) rfl) (fun u hu => by rw [List.mem_singleton.1 hu]; rfl) (by simp only [maxLen]; omega) (by omega) fun M2 cM2 hM2 => x_and (fun _ h => h.pick_ [4, 5, 6] (by decide)) ?_)
            refine x_take 18 rfl (by kernel_rfl) rfl (r_fieldAddr Ty.q29_2 rfl) rfl (fun _ h => h.pick_ [4, 5, 6] (by decide)) ?_
            refine x_all [19] (by kernel_rfl) ⟨?_, trivial⟩
            refine x_do rfl rfl (s_store (i := 2) Ty.z25 rfl rfl rfl rfl rfl rfl (x_and (fun _ h => h.pick_ [4, 5, 6] (by decide)) ?_))
            refine x_nf (L' := _ :: _ :: _ :: _ :: _ :: bl _ _ #[_, _, _, _, _] :: bl _ _ #[_, _, _, _, _] :: _) rfl ?_
            refine x_done (by kernel_rfl) ?_
            refine x_region ?_
            refine x_op rfl (x_val (r_move rfl) rfl ?_)
            refine x_op rfl (x_val (r_add rfl rfl ⟨by omega, by omega⟩) rfl ?_)
            refine x_op rfl (x_val (r_assign rfl) rfl ?_)
            refine x_nil ?_
            refine x_again (s := TS.mk i M cM us Z) (TS.mk (i + 1) M2 cM2 (us ++ [(A3, v.2.1, c3)]) (sl A3 c3 3 1 (ints xs) :: Z)) (by repeat (first | exact trivial | refine ⟨rfl, ?_⟩)) (fun _ h => by simp only [List.length_append, List.length_cons, List.length_nil, slcs_snoc]; exact Own.pickT (l := [_, _, _, _, _, _, _]) h [2, 3, 4, 5, 6, 1] (by decide)) ⟨by simp only []; omega, by simp [hul], by simp only [List.length_append, List.length_cons, List.length_nil, slcs_snoc]; exact hM2, by simp only [htk]; exact hZ.snoc (v := (A3, v.2.1, c3)) hv1 hA3⟩ (by simp only []; omega)
    · refine x_nil ?_
      refine x_false rfl ?_
      refine x_exit rfl ?_
      refine x_seq ?_
      have hin : i = n := by omega
      subst hin
      rw [hn, hlen, List.take_length] at hZ
      rw [hul] at hM
      simp only [hul]
      refine x_region ?_
      refine x_op rfl (x_val (r_ownN (i := 0) Ty.z29 rfl rfl rfl) rfl ?_)
      refine x_op rfl (s_store (i := 3) Ty.z29 rfl rfl rfl rfl rfl rfl ?_)
      refine x_nf (L' := _ :: _ :: _ :: bl _ _ #[_, _, _, _, _] :: bl _ _ #[_, _, _, _, _] :: _) rfl ?_
      refine x_nil ?_
      refine x_ret ?_
      -- path F
      exact x_ret1 rfl (res_own (i := 3) (cs := [.int .i64 ch, .int .i64 dp, .int .i64 rt, .slice T1 m ct1, .slice M i cM]) rfl rfl Ty.z29 rfl) fun w1 hO => ⟨_, rfl, T1, ct1, M, cM, us, Z, rfl, hT1, hul.symm, hM, hZ, Own.pickT (l := [_, _, _, _, _]) hO [2, 1] (by decide)⟩
end Go.Proofs.YtlpoepmipbegaaaDoor.Wv
