/- For every track of bulk at most the bound WavKeeps returns true, and the track reads afterwards as it read before: the row, and its card. -/
import Derived.Test.YtlpoepmipbegaaaDoorV23
import Derived.Test.YtlpoepmipbegaaaDoorCards
import Derived.Test.YtlpoepmipbegaaaDoorTie
import Derived.WalkKit
import Derived.ProofKit
import Derived.OpenShut
import Derived.ChangeOld
import Derived.Below
import Derived.Deep.SlicePairs
import Derived.Deep.Strs
import Derived.Lib.SmallJoins
import Derived.Deep.DeepHandedRow
import Derived.Deep.DeepWitnessRowRef
import Derived.Lib.LaidTab
import Derived.Lib.LaidIn
import Derived.Shelf.Vars
set_option linter.unusedVariables false
namespace Go.Proofs.YtlpoepmipbegaaaDoor.wavKeeps
open Go.ChangeShapes Go.WideShapes Go.ChangeAt Go.RowKit
open Go.Proofs.YtlpoepmipbegaaaDoor.En Go.Proofs.YtlpoepmipbegaaaDoor.Wv
theorem own : ownKnob Tryd.prog.godebug = none := by kernel_rfl
theorem laidOut : laidOutB Tryd.prog = true := by kernel_rfl
theorem one_le {H : Type} (d : DataW H) : 1 ≤ Rows.uptoBulk d := by
  cases d with
  | lit l => cases l <;> simp [Rows.uptoBulk]
  | _ => simp [Rows.uptoBulk]
theorem part_le {H : Type} {d : DataW H} {l : List (DataW H)} (h : d ∈ l) : Rows.uptoBulk d ≤ Rows.uptoBulkAll l := by
  induction l with
  | nil => cases h
  | cons x r ih =>
    simp only [Rows.uptoBulkAll]
    cases List.mem_cons.1 h with
    | inl e => subst e; omega
    | inr e => have := ih e; omega
theorem length_le {H : Type} (l : List (DataW H)) : l.length ≤ Rows.uptoBulkAll l := by
  induction l with
  | nil => simp [Rows.uptoBulkAll]
  | cons x r ih => have := one_le x; simp only [Rows.uptoBulkAll, List.length_cons]; omega
theorem slice_len {H : Type} (elems spare : List (DataW H)) : elems.length ≤ Rows.uptoBulk (.slice elems spare) := by
  have h1 := length_le elems
  simp only [Rows.uptoBulk]
  omega
theorem slice_part {H : Type} {d : DataW H} {elems spare : List (DataW H)} (h : d ∈ elems) : Rows.uptoBulk d ≤ Rows.uptoBulk (.slice elems spare) := by
  have h1 := part_le h
  simp only [Rows.uptoBulk]
  omega
section
variable {H : Type} {enc : TypeId × Value → H} {W : World} {fuel : Nat} {v : Value} {y : DataW H × List MemPlace}
theorem lt_of_cell {a : Addr} {u : Value} (h : W.cell? a = some u) : a.block < W.heap.size := by
  simp only [World.cell?] at h
  rcases Nat.lt_or_ge a.block W.heap.size with hlt | hge
  · exact hlt
  · rw [Array.getElem?_eq_none hge] at h; cases h
theorem add_zero' (a : Addr) : a.add 0 = a := by simp [Addr.add]
theorem openStrs (h : DataW.trod enc Tryd.prog W 0 (fun _ => true) true fuel 24 [v] = some y) :
    ∃ (A : Option Addr) (c : Nat) (ts : List ByteArray), v = .slice A ts.length c ∧ Rd W A ts.length 1 (strs ts) ∧ ts.length ≤ Rows.uptoBulk y.1 ∧ ∀ t ∈ ts, t.size ≤ Rows.uptoBulk y.1 := by
  rcases Deep.open_slice1 Tryd.underlying24 (by kernel_rfl) h with ⟨hcs, hx⟩ | ⟨a, len, cap, m, n, V, D, Pl, hcs, _, hl, hm, hmm, hx, hc⟩
  · obtain rfl : v = .slice none 0 0 := by simpa using hcs
    exact ⟨none, 0, [], rfl, Rd.nil_ W none 1, Nat.zero_le _, fun p hp => (nomatch hp)⟩
  · obtain rfl : v = .slice (some a) len cap := by simpa using hcs
    simp only [if_true] at hmm
    subst hmm
    have each : ∀ i, i < len → ∃ t : ByteArray, W.cell? (a.add i) = some (.string t) ∧ D i = .lit (.string t.data.toList) := by
      intro i hi
      obtain ⟨h0, h1⟩ := hc i (by omega)
      obtain ⟨s0, e0, e1, _⟩ := DataW.trod_string Tryd.underlying9 h1
      refine ⟨s0, ?_, by simpa using congrArg Prod.fst e1⟩
      rw [h0]; simpa using e0
    obtain ⟨f, hf⟩ := Deep.choose_lt each
    have hlen : ((List.range len).map f).length = len := by simp
    refine ⟨some a, m, (List.range len).map f, by rw [hlen], ⟨by simp [Wv.strs], by simp only [hlen]; omega, fun hn => ⟨a, rfl, ?_, fun j u hu => ?_⟩⟩, ?_, fun t ht => ?_⟩
    · have h0 := (hf 0 (by rw [hlen] at hn; exact hn)).1
      rw [add_zero'] at h0
      exact lt_of_cell h0
    · simp only [Wv.strs, List.map_map, List.getElem?_map, Option.map_eq_some_iff] at hu
      obtain ⟨i, hi, rfl⟩ := hu
      obtain ⟨hi1, hi2⟩ := List.getElem?_eq_some_iff.1 hi
      have hij : j = i := by rw [List.getElem_range] at hi2; exact hi2
      subst hij
      rw [List.length_range] at hi1
      exact (hf j hi1).1
    · rw [hlen, hx]
      have := slice_len (H := H) ((List.range len).map D) ((List.range (m - len)).map fun j => D (len + j))
      simpa using this
    · obtain ⟨i, hi, rfl⟩ := List.mem_map.1 ht
      have hi2 := List.mem_range.1 hi
      have h2 := (hf i hi2).2
      rw [hx]
      have h3 := slice_part (H := H) (spare := (List.range (m - len)).map fun j => D (len + j)) (List.mem_map.2 ⟨i, hi, rfl⟩ : D i ∈ (List.range len).map D)
      rw [h2] at h3
      simp only [Rows.uptoBulk] at h3 ⊢
      have h4 : (f i).data.toList.length = (f i).size := Array.length_toList
      omega
theorem openInts (h : DataW.trod enc Tryd.prog W 0 (fun _ => true) true fuel 41 [v] = some y) :
    ∃ (A : Option Addr) (c : Nat) (xs : List Int), v = .slice A xs.length c ∧ xs.length ≤ c ∧ c ≤ maxLen ∧ Rd W A xs.length 1 (ints xs) ∧ xs.length ≤ Rows.uptoBulk y.1 := by
  rcases Deep.open_slice1 Tryd.underlying41 (by kernel_rfl) h with ⟨hcs, hx⟩ | ⟨a, len, cap, m, n, V, D, Pl, hcs, _, hl, hm, hmm, hx, hc⟩
  · obtain rfl : v = .slice none 0 0 := by simpa using hcs
    exact ⟨none, 0, [], rfl, Nat.le_refl _, Nat.zero_le _, Rd.nil_ W none 1, Nat.zero_le _⟩
  · obtain rfl : v = .slice (some a) len cap := by simpa using hcs
    simp only [if_true] at hmm
    subst hmm
    have each : ∀ i, i < len → ∃ z : Int, W.cell? (a.add i) = some (.int .i64 z) := by
      intro i hi
      obtain ⟨h0, h1⟩ := hc i (by omega)
      obtain ⟨z, e0, _, _⟩ := DataW.trod_int Tryd.underlying3 h1
      refine ⟨z, ?_⟩
      rw [h0]; simpa using e0
    obtain ⟨f, hf⟩ := Deep.choose_lt each
    have hlen : ((List.range len).map f).length = len := by simp
    refine ⟨some a, m, (List.range len).map f, by rw [hlen], by rw [hlen]; exact hl, hm, ⟨by simp [ints], by simp only [hlen]; omega, fun hn => ⟨a, rfl, ?_, fun j u hu => ?_⟩⟩, ?_⟩
    · have h0 := hf 0 (by rw [hlen] at hn; exact hn)
      rw [add_zero'] at h0
      exact lt_of_cell h0
    · simp only [ints, List.map_map, List.getElem?_map, Option.map_eq_some_iff] at hu
      obtain ⟨i, hi, rfl⟩ := hu
      obtain ⟨hi1, hi2⟩ := List.getElem?_eq_some_iff.1 hi
      have hij : j = i := by rw [List.getElem_range] at hi2; exact hi2
      subst hij
      rw [List.length_range] at hi1
      exact hf j hi1
    · rw [hlen, hx]
      have := slice_len (H := H) ((List.range len).map D) ((List.range (m - len)).map fun j => D (len + j))
      simpa using this
instance : Inhabited (Sv × List Int) := ⟨((none, 0, 0), [])⟩
theorem openChans (h : DataW.trod enc Tryd.prog W 0 (fun _ => true) true fuel 25 [v] = some y) :
    ∃ (C : Option Addr) (c : Nat) (vs : List Sv) (chs : List (List Int)), v = .slice C vs.length c ∧ Rd W C vs.length 1 (slcs vs) ∧ ChOk W vs chs ∧ vs.length ≤ Rows.uptoBulk y.1 ∧ ∀ u ∈ vs, u.2.1 ≤ Rows.uptoBulk y.1 := by
  rcases Deep.open_slice1 Tryd.underlying25 (by kernel_rfl) h with ⟨hcs, hx⟩ | ⟨a, len, cap, m, n, V, D, Pl, hcs, _, hl, hm, hmm, hx, hc⟩
  · obtain rfl : v = .slice none 0 0 := by simpa using hcs
    exact ⟨none, 0, [], [], rfl, Rd.nil_ W none 1, ⟨rfl, fun i v xs h => (nomatch h)⟩, Nat.zero_le _, fun p hp => (nomatch hp)⟩
  · obtain rfl : v = .slice (some a) len cap := by simpa using hcs
    simp only [if_true] at hmm
    subst hmm
    have each : ∀ i, i < len → ∃ q : Sv × List Int, W.cell? (a.add i) = some (.slice q.1.1 q.1.2.1 q.1.2.2) ∧ (q.1.2.1 = q.2.length ∧ q.1.2.1 ≤ q.1.2.2 ∧ q.1.2.2 ≤ maxLen ∧ Rd W q.1.1 q.1.2.1 1 (ints q.2)) ∧ q.1.2.1 ≤ Rows.uptoBulk (D i) := by
      intro i hi
      obtain ⟨h0, h1⟩ := hc i (by omega)
      obtain ⟨A, c, xs, e0, e1, e2, e3, e4⟩ := openInts h1
      exact ⟨((A, xs.length, c), xs), by rw [h0, e0], ⟨rfl, e1, e2, e3⟩, e4⟩
    obtain ⟨f, hf⟩ := Deep.choose_lt each
    have hlen : ((List.range len).map fun i => (f i).1).length = len := by simp
    refine ⟨some a, m, (List.range len).map fun i => (f i).1, (List.range len).map fun i => (f i).2, by rw [hlen], ⟨by simp [slcs], by simp only [hlen]; omega, fun hn => ⟨a, rfl, ?_, fun j u hu => ?_⟩⟩, ⟨by simp, fun i v xs hv hx => ?_⟩, ?_, fun u hu => ?_⟩
    · have h0 := (hf 0 (by rw [hlen] at hn; exact hn)).1
      rw [add_zero'] at h0
      exact lt_of_cell h0
    · simp only [slcs, List.map_map, List.getElem?_map, Option.map_eq_some_iff] at hu
      obtain ⟨i, hi, rfl⟩ := hu
      obtain ⟨hi1, hi2⟩ := List.getElem?_eq_some_iff.1 hi
      have hij : j = i := by rw [List.getElem_range] at hi2; exact hi2
      subst hij
      rw [List.length_range] at hi1
      exact (hf j hi1).1
    · simp only [List.getElem?_map, Option.map_eq_some_iff] at hv hx
      obtain ⟨j, hj, rfl⟩ := hv
      obtain ⟨j', hj', rfl⟩ := hx
      obtain ⟨hi1, hi2⟩ := List.getElem?_eq_some_iff.1 hj
      obtain rfl : j = j' := by rw [hj] at hj'; injection hj'
      rw [List.getElem_range] at hi2
      rw [List.length_range] at hi1
      exact (hf j (by omega)).2.1
    · rw [hlen, hx]
      have := slice_len (H := H) ((List.range len).map D) ((List.range (m - len)).map fun j => D (len + j))
      simpa using this
    · obtain ⟨i, hi, rfl⟩ := List.mem_map.1 hu
      have hi2 := List.mem_range.1 hi
      have h2 := (hf i hi2).2.2
      rw [hx]
      exact Nat.le_trans h2 (slice_part (H := H) (List.mem_map.2 ⟨i, hi, rfl⟩ : D i ∈ (List.range len).map D))
end
theorem array5 {cs : Array Value} (h : cs.size = 5) : ∃ a b c d e, cs = #[a, b, c, d, e] := by
  obtain ⟨l⟩ := cs
  match l, h with
  | [a, b, c, d, e], _ => exact ⟨a, b, c, d, e, rfl⟩
theorem globMax : Tryd.prog.globalNamed "internal/bytealg.MaxLen" = some 0 := by kernel_rfl
theorem glob {W : World} (h : W.ShapedOpen Tryd.prog) : Glob W :=
  cell_of_shapedOpen_int (zero := #[.int .i64 0]) (t := 3) h (of_decide_eq_true (by kernel_rfl)) (by kernel_rfl) rfl (by kernel_rfl) (by kernel_rfl) Tryd.underlying3
set_option maxRecDepth 100000 in
theorem contract (H : Type) (enc : TypeId × Value → H) (W : World) (base : Nat) (args : Array Value) (ds gs : List (DataW H)) (before : List MemPlace)
    (hval : ∀ (j : Nat) t v, Tryd.f3.params[j]? = some t → args[j]? = some v → Value.okWide Tryd.prog W .any base t v)
    (hW : DataW.Whole enc Tryd.prog Tryd.f3.params.toList Rows.wavKeepsSpec.vars false W args.toList ds gs before) (hk : Rows.uptoBulkAll (ds ++ gs) ≤ 1048576) (hsh : W.ShapedOpen Tryd.prog) :
    Calls Tryd.prog 3 args W fun e W' => ∃ v, e = .returned v ∧ Rows.wavKeepsSpec.post enc Tryd.prog Tryd.f3 false true false false W args v W' := by
  have hW' := hW
  obtain ⟨p, q, hA0, hV, rfl, hfz, hnd⟩ := hW
  have hA : DataW.TrodAll enc Tryd.prog W 0 (fun _ => true) true Tryd.f3.params.toList args.toList ds p := hA0
  rw [Tryd.params3] at hA hval
  obtain ⟨v0, vs0, d0, ds0, p0, q0, hargs, rfl, rfl, h0, r0⟩ := trodAll_cons hA
  obtain ⟨rfl, rfl, rfl⟩ := trodAll_nil r0
  obtain rfl : args = #[v0] := by cases args; simp_all
  obtain ⟨rfl, rfl⟩ := trodVars_none hV
  have k0 := h0
  have lt0 : ∀ x ∈ p0, x.block < W.heap.size := by obtain ⟨m, hm⟩ := k0; exact DataW.trod_lt m _ _ _ hm
  obtain ⟨cs, rfl, hsz⟩ := okWide_struct Tryd.underlying27 (hval 0 27 v0 rfl rfl)
  obtain ⟨a, b, c, d, e, rfl⟩ := array5 (hsz.trans (by kernel_rfl))
  obtain ⟨fuel, hf⟩ := h0
  obtain ⟨y0, y1, y2, n, hx, _, t0, t1, t2⟩ := Deep.trod_struct3 Tryd.underlying27 hf
  have g0 : DataW.trod enc Tryd.prog W 0 (fun _ => true) true n 23 [a, b, c] = some y0 := t0
  have g1 : DataW.trod enc Tryd.prog W 0 (fun _ => true) true n 24 [d] = some y1 := t1
  have g2 : DataW.trod enc Tryd.prog W 0 (fun _ => true) true n 25 [e] = some y2 := t2
  obtain ⟨z0, z1, z2, n2, hx2, _, i0, i1, i2⟩ := Deep.trod_struct3 Tryd.underlying23 g0
  have j0 : DataW.trod enc Tryd.prog W 0 (fun _ => true) true n2 3 [a] = some z0 := i0
  have j1 : DataW.trod enc Tryd.prog W 0 (fun _ => true) true n2 3 [b] = some z1 := i1
  have j2 : DataW.trod enc Tryd.prog W 0 (fun _ => true) true n2 3 [c] = some z2 := i2
  obtain ⟨ch, ea, _, _⟩ := DataW.trod_int Tryd.underlying3 j0
  obtain ⟨dp, eb, _, _⟩ := DataW.trod_int Tryd.underlying3 j1
  obtain ⟨rt, ec, _, _⟩ := DataW.trod_int Tryd.underlying3 j2
  obtain rfl : a = .int .i64 ch := by simpa using ea
  obtain rfl : b = .int .i64 dp := by simpa using eb
  obtain rfl : c = .int .i64 rt := by simpa using ec
  obtain ⟨T, ct, ts, rfl, hT, hT1, hT2⟩ := openStrs g1
  obtain ⟨C, cc, vs, chs, rfl, hC, hch, hC1, hC2⟩ := openChans g2
  have hd0 : d0 = .agg [y0.1, y1.1, y2.1] := congrArg Prod.fst hx
  rw [hd0] at hk
  simp only [List.append_nil, Rows.uptoBulkAll, Rows.uptoBulk] at hk
  clear hA0 hval
  refine (WavKeeps_ ch dp rt T C vs.length ct cc ts vs chs W rfl hT hC hch (by omega) (by omega) (fun v hv => by have := hC2 v hv; omega) (fun t ht => by have := hT2 t ht; omega) (glob hsh)).mono fun e W' ⟨r, he, hrv, hO⟩ => ?_
  subst he; subst hrv
  have bel := hO.below
  exact ⟨_, rfl, _, _, _, [], _, [], hW', trodAll_mk1 (shut_bool Tryd.underlying4 _), trodAll_cons_mk (Below.trod laidOut (by kernel_rfl) (of_decide_eq_true (by kernel_rfl)) k0 bel lt0) trodAll_mk0, rfl, bel.frame _, fun h => by cases h⟩
end Go.Proofs.YtlpoepmipbegaaaDoor.wavKeeps
