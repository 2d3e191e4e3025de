/- For every node and key LeafKeeps returns true, and both arguments read afterwards as they read before: no condition beyond what the statement's own form asks of every input. -/
import Derived.Test.YtlpoepmipbegaaaLx
import Derived.Test.YtlpoepmipbegaaaRows
import Derived.WalkKit
import Derived.ProofKit
import Derived.OpenShut
import Derived.ShutString
import Derived.ChangeOld
import Derived.Below
import Derived.SizedLaws
import Derived.Deep.SlicePairs
import Derived.Lib.SmallJoins
set_option linter.unusedVariables false
namespace Go.Proofs.Ytlpoepmipbegaaa.leafKeeps
open Go.ChangeShapes Go.WideShapes Go.ChangeAt Go.RowKit
open Go.ChangeMaps (open_string shut_string)
open Go.Proofs.Ytlpoepmipbegaaa.En Go.Proofs.Ytlpoepmipbegaaa.Lm Go.Proofs.Ytlpoepmipbegaaa.Lf
theorem own : ownKnob Try.prog.godebug = none := by kernel_rfl
theorem laidOut : laidOutB Try.prog = true := by kernel_rfl
theorem fl_get : ∀ (ps : List Pr) (j : Nat) (u : Value), (fl ps)[j]? = some u → ∃ i p, ps[i]? = some p ∧ ((j = i * 2 ∧ u = .string p.1) ∨ (j = i * 2 + 1 ∧ u = .string p.2))
  | [], j, u, h => by simp [fl] at h
  | p :: r, 0, u, h => by simp [fl] at h; exact ⟨0, p, rfl, .inl ⟨rfl, h.symm⟩⟩
  | p :: r, 1, u, h => by simp [fl] at h; exact ⟨0, p, rfl, .inr ⟨rfl, h.symm⟩⟩
  | p :: r, j + 2, u, h => by
    simp only [fl, List.getElem?_cons_succ] at h
    obtain ⟨i, q, h1, h2⟩ := fl_get r j u h
    refine ⟨i + 1, q, by simpa using h1, ?_⟩
    rcases h2 with ⟨h2, h3⟩ | ⟨h2, h3⟩
    · exact .inl ⟨by omega, h3⟩
    · exact .inr ⟨by omega, h3⟩
theorem bytes36 : Try.prog.bytesOf 36 = 32 := by kernel_rfl
theorem openPairs {H : Type} {enc : TypeId × Value → H} {W : World} {fuel : Nat} {v : Value} {y : DataW H × List MemPlace} (h : DataW.trod enc Try.prog W 0 (fun _ => true) true fuel 22 [v] = some y) :
    ∃ (A : Option Addr) (c : Nat) (ps : List Pr), v = .slice A ps.length c ∧ Rd W A ps.length 2 (fl ps) ∧ (∀ p ∈ ps, p.1.size ≤ maxLen ∧ p.2.size ≤ maxLen) ∧ ((∀ n ∈ y.1.weights Try.prog 22, n ≤ reachBytes) → ps.length * 32 ≤ 140737488351232) := by
  rcases Deep.open_slice_pairs Try.underlying22 Try.underlying36 (by kernel_rfl) rfl rfl (by kernel_rfl) (by kernel_rfl) h with ⟨hcs, hx⟩ | ⟨a, len, cap, m, n, V0, V1, D0, D1, P0, P1, hcs, _, hl, hm, hmm, hx, hc⟩
  · obtain rfl : v = .slice none 0 0 := by simpa using hcs
    exact ⟨none, 0, [], rfl, Rd.nil_ W none 2, fun p hp => (nomatch hp), fun _ => by simp⟩
  · obtain rfl : v = .slice (some a) len cap := by simpa using hcs
    simp only [if_true] at hmm
    subst hmm
    have each : ∀ i, i < len → ∃ q : Pr, W.cell? (a.add (i * 2)) = some (.string q.1) ∧ W.cell? (a.add (i * 2 + 1)) = some (.string q.2) ∧ q.1.size ≤ maxLen ∧ q.2.size ≤ maxLen := by
      intro i hi
      obtain ⟨h0, h1, h2, h3⟩ := hc i (by omega)
      obtain ⟨s0, e0, _, z0⟩ := DataW.trod_string Try.underlying9 h2
      obtain ⟨s1, e1, _, z1⟩ := DataW.trod_string Try.underlying9 h3
      refine ⟨(s0, s1), ?_, ?_, z0, z1⟩
      · rw [h0]; simpa using e0
      · rw [h1]; simpa using e1
    obtain ⟨f, hf⟩ := Deep.choose_lt each
    have hlen : ((List.range len).map f).length = len := by simp
    refine ⟨some a, m, (List.range len).map f, by rw [hlen], ⟨fl_length _, by rw [hlen]; omega, fun hn => ⟨a, rfl, ?_, fun j u hu => ?_⟩⟩, fun p hp => ?_, fun hw => ?_⟩
    · have h0 := (hf 0 (by rw [hlen] at hn; exact hn)).1
      simp only [World.cell?, Addr.add, Nat.zero_mul, if_true] at h0
      rcases Nat.lt_or_ge a.block W.heap.size with hlt | hge
      · exact hlt
      · rw [Array.getElem?_eq_none hge] at h0; cases h0
    · obtain ⟨i, p, hi, h1⟩ := fl_get _ j u hu
      have hil : i < len := by have := (List.getElem?_eq_some_iff.1 hi).1; rwa [hlen] at this
      have hp : p = f i := by simpa [hil] using hi.symm
      subst hp
      rcases h1 with ⟨rfl, rfl⟩ | ⟨rfl, rfl⟩
      · exact (hf i hil).1
      · exact (hf i hil).2.1
    · obtain ⟨i, hi, rfl⟩ := List.mem_map.1 hp
      exact (hf i (List.mem_range.1 hi)).2.2
    · have h1 := hw ((len + (m - len)) * 32) (by
        rw [hx]
        simp [DataW.weights, Try.underlying22, bytes36])
      simp only [reachBytes] at h1
      rw [hlen]
      omega
set_option maxRecDepth 100000 in
theorem lifted (os : Os) (started : os.Started) (H : Type) (enc : TypeId × Value → H) :
    ReturnsInHanded {} Try.checked os 3 .any (Rows.leafKeepsSpec.pre6 enc Try.prog Try.f3 Rows.leafKeepsRow.domain false) (Rows.leafKeepsSpec.post enc Try.prog Try.f3 false true false false) := by
  refine returnsInHanded_of_change_sized (C := Try.checked) own started (by kernel_rfl) Try.func3
    (ChangeSpec.witness6 (enc := enc) (C := Try.checked) false ⟨#[], #[.agg #[.bool false, .int .i64 0, .slice none 0 0], .string ByteArray.empty], []⟩ 8 (by kernel_rfl) (by kernel_rfl) (by kernel_rfl) (by kernel_rfl)) ?_
  intro W base args ds gs before hval0 hW hcnd hsz0 _
  have hsz : (DataW.weightsEach Try.prog (Try.f3.params.toList ++ Rows.leafKeepsSpec.plain.varTypes Try.prog) (ds ++ gs)).all (· ≤ reachBytes) = true := hsz0
  have hval : ∀ (j : Nat) t v, Try.f3.params[j]? = some t → args[j]? = some v → Value.okWide Try.prog W .any base t v := hval0
  have hW' := hW
  obtain ⟨p, q, hA0, hV, rfl, hfz, hnd⟩ := hW
  have hA : DataW.TrodAll enc Try.prog W 0 (fun _ => true) true Try.f3.params.toList args.toList ds p := hA0
  rw [Try.params3] at hA hval hsz
  obtain ⟨v0, vs0, d0, ds0, p0, q0, hargs, rfl, rfl, h0, r0⟩ := trodAll_cons hA
  obtain ⟨v1, vs1, d1, ds1, p1, q1, rfl, rfl, rfl, h1, r1⟩ := trodAll_cons r0
  obtain ⟨rfl, rfl, rfl⟩ := trodAll_nil r1
  obtain rfl : args = #[v0, v1] := by cases args; simp_all
  obtain ⟨rfl, rfl⟩ := trodVars_none hV
  have k0 := h0
  have lt0 : ∀ x ∈ p0, x.block < W.heap.size := by obtain ⟨m, hm⟩ := k0; exact DataW.trod_lt m _ _ _ hm
  obtain ⟨c0, c1, c2, y0, y1, y2, m, rfl, hd0, hp0, t0, t1, t2⟩ := Go.Joins.open_agg3 Try.underlying24 (by kernel_rfl) (by kernel_rfl) (hval 0 24 v0 rfl rfl) h0
  obtain ⟨br, hb, _⟩ := DataW.trod_bool Try.underlying4 t0
  obtain ⟨n, hn, _, _⟩ := DataW.trod_int Try.underlying3 t1
  obtain ⟨A, c, ps, rfl, hr, hs, hbound⟩ := openPairs t2
  obtain rfl : c0 = .bool br := by simpa using hb
  obtain rfl : c1 = .int .i64 n := by simpa using hn
  obtain ⟨s, rfl, rfl, rfl, ys⟩ := open_string Try.underlying9 (hval 1 9 v1 rfl rfl) h1
  have hlen := hbound (fun z hz => of_decide_eq_true (List.all_eq_true.1 hsz z (DataW.weights_mem_each (j := 0) (t := 24) (d := d0) rfl rfl z (by
    rw [hd0]
    simp only [DataW.weights, Try.underlying24]
    exact DataW.weights_mem_each (j := 2) (t := 22) rfl rfl z hz))))
  clear hA0 hval0 hsz0 hsz
  refine (LeafKeeps_ ⟨br, n, ps⟩ A c s W hr hs (show ps.length ≤ 4398046511104 by omega) ys).mono fun e W' ⟨r, he, hrv, hO⟩ => ?_
  subst he; subst hrv
  have bel := hO.below
  exact ⟨_, rfl, _, _, _, [], _, [], hW', trodAll_mk1 (shut_bool Try.underlying4 _), (trodAll_cons_mk (Below.trod laidOut (by kernel_rfl) (of_decide_eq_true (by kernel_rfl)) k0 bel lt0) (trodAll_cons_mk (shut_string Try.underlying9 ys) trodAll_mk0)), rfl, bel.frame _, fun h => by cases h⟩
theorem over : Rows.leafKeepsRow.holds Try.pinned (OpenSpec.ofChange Rows.leafKeepsSpec) :=
  OpenClaim.holds_of_wide 3 Try.f3 rfl rfl rfl rfl rfl rfl rfl ⟨rfl, rfl, rfl, rfl, rfl⟩ rfl rfl rfl rfl rfl (by kernel_rfl) Try.func3 (by kernel_rfl)
    (of_decide_eq_true (by kernel_rfl)) (by unfold Func.isWrapper; first | (rw [if_pos (by decide +kernel)]; kernel_rfl) | (rw [if_neg (by decide +kernel)]; exact ⟨rfl, rfl⟩))
    (fun os started H enc _ => lifted os started H enc)
theorem proved : Rows.LeafKeepsSaid := over
#print axioms proved
end Go.Proofs.Ytlpoepmipbegaaa.leafKeeps
namespace Go.Proofs.Ytlpoepmipbegaaa
/-- The row, under a short name, for the claim. -/
theorem leafKeeps_holds : Rows.LeafKeepsSaid := leafKeeps.proved
end Go.Proofs.Ytlpoepmipbegaaa
