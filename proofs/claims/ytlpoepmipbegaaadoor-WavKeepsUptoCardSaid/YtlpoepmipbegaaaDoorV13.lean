/- What a sample's bytes tell: the sample again. -/
import Derived.Test.YtlpoepmipbegaaaDoorV12
set_option linter.unusedVariables false
set_option linter.unusedSimpArgs false
namespace Go.Proofs.YtlpoepmipbegaaaDoor.Wv
open Go Go.RowKit Go.Proofs.YtlpoepmipbegaaaDoor.En
section
variable {w0 w : World} {F : List Nat} {L : List Asn}
theorem numberCn {i bi m c n : Nat} {B : Option Addr} {bad : Bool} {x rest : List UInt8} (hw : Own w0 F L w) (hi : L[i]? = some (bl bi 56 #[.slice B m c, .bool bad])) (hC : Cur w0 F B m c (x ++ rest)) (h4 : n ≤ 4) (h0 : 0 < m) (hn : x.length = n) :
    Calls Tryd.prog 19 #[.pointer (me bi), .int .i64 n] w fun en w1 => ∃ r, en = .returned r ∧ (r = .int .i64 (leV x) ∧ ∃ B' m' c', Cur w0 F B' m' c' rest ∧ (∀ w' F', Cur w' F' B m c (x ++ rest) → Cur w' F' B' m' c' rest) ∧ Own w (fb (pick L [i])) [bl bi 56 #[.slice B' m' c', .bool bad]] w1) := by
  subst hn
  exact numberC hw hi hC h4 h0
end
/-- The samples of all channels, row by row. -/
def inter (chs : List (List Int)) (n : Nat) : List Int := (List.range n).flatMap fun i => chs.map fun xs => xs[i]?.getD 0
def seqB (dp : Int) (zs : List Int) : List UInt8 := zs.flatMap (sampB dp)
theorem data_seq (dp : Int) (chs : List (List Int)) (n : Nat) : dataB dp chs n = seqB dp (inter chs n) := by
  unfold dataB seqB inter rowB
  rw [List.flatMap_assoc]
  congr 1
  funext i
  rw [List.flatMap_map]
theorem seqB_cons {dp : Int} {zs : List Int} {s : Nat} {z : Int} (h : zs[s]? = some z) : seqB dp (zs.drop s) = sampB dp z ++ seqB dp (zs.drop (s + 1)) := by
  have hj : s < zs.length := (List.getElem?_eq_some_iff.1 h).1
  rw [List.drop_eq_getElem_cons hj, (List.getElem?_eq_some_iff.1 h).2]
  rfl
theorem inter_length (chs : List (List Int)) : ∀ n, (inter chs n).length = n * chs.length
  | 0 => by simp [inter]
  | n + 1 => by
    have := inter_length chs n
    unfold inter at this ⊢
    rw [List.range_succ, List.flatMap_append, List.length_append, this, Nat.add_mul, Nat.one_mul]
    simp
theorem inter_one (xs : List Int) (n : Nat) (hn : n ≤ xs.length) : inter [xs] n = xs.take n := by
  induction n with
  | zero => simp [inter]
  | succ n ih =>
    have h1 := ih (by omega)
    unfold inter at h1 ⊢
    rw [List.range_succ, List.flatMap_append, h1, List.take_add_one]
    have hx : xs[n]? = some xs[n] := List.getElem?_eq_getElem (by omega)
    simp [hx]
theorem inter_two (xs ys : List Int) : ∀ (n s : Nat), s < 2 * n → (inter [xs, ys] n)[s]? = some (if s % 2 = 0 then xs[s / 2]?.getD 0 else ys[s / 2]?.getD 0)
  | 0, s, h => by omega
  | n + 1, s, h => by
    have hl := inter_length [xs, ys] n
    have e : inter [xs, ys] (n + 1) = inter [xs, ys] n ++ [xs[n]?.getD 0, ys[n]?.getD 0] := by
      unfold inter
      rw [List.range_succ, List.flatMap_append]
      simp
    rw [e]
    simp only [List.length_cons, List.length_nil] at hl
    rcases Nat.lt_or_ge s (2 * n) with h1 | h1
    · rw [List.getElem?_append_left (by omega)]
      exact inter_two xs ys n s h1
    · rw [List.getElem?_append_right (by omega), hl]
      have h2 : s = 2 * n ∨ s = 2 * n + 1 := by omega
      rcases h2 with rfl | rfl
      · rw [show 2 * n - n * (0 + 1 + 1) = 0 by omega, show 2 * n / 2 = n by omega, if_pos (by omega)]; rfl
      · rw [show 2 * n + 1 - n * (0 + 1 + 1) = 1 by omega, show (2 * n + 1) / 2 = n by omega, if_neg (by omega)]; rfl
theorem sampB_length (dp x : Int) : (sampB dp x).length = wideN dp := le_length _ _
theorem mul_div_self {z M : Int} (hM : 1 ≤ M) : z * M / M = z := Int.mul_ediv_cancel z (by omega)
/-- One byte: what is read, less 128. -/
theorem dec_one {dp z : Int} (h : 4 ≤ dp ∧ dp ≤ 24) (hf : fits dp z) (h1 : wideN dp = 1) : ((leV (sampB dp z) : Int) - 128) / shM dp = z ∧ (leV (sampB dp z) : Int) < 256 := by
  obtain ⟨P, hP, h2, h3, h4, h5, h6, h7, h8⟩ := dp_cases h
  have hx := mul_bd h4 (fits_bd hP h2 hf)
  have hPM : P * shM dp = 128 := by rcases h8 with ⟨_, h8⟩ | ⟨h9, _⟩ | ⟨h9, _⟩ <;> omega
  unfold sampB sampV
  rw [if_pos h1, leV_le, h1, Int.pow_succ, Int.pow_zero, Int.one_mul, Int.emod_eq_of_lt (by omega) (by omega)]
  refine ⟨?_, by omega⟩
  rw [show z * shM dp + 128 - 128 = z * shM dp by omega]
  exact mul_div_self h4
/-- More bytes: the highest bit tells a number below nought. -/
theorem dec_more {dp z : Int} (h : 4 ≤ dp ∧ dp ≤ 24) (hf : fits dp z) (h1 : ¬ wideN dp = 1) :
    (leV (sampB dp z) : Int) < 16777216 ∧ ((leV (sampB dp z) : Int) / 2 ^ (8 * (wideN dp : Int) - 1).toNat = 1 → ((leV (sampB dp z) : Int) - 1 * 2 ^ (8 * (wideN dp : Int)).toNat) / shM dp = z) ∧
    (¬ (leV (sampB dp z) : Int) / 2 ^ (8 * (wideN dp : Int) - 1).toNat = 1 → (leV (sampB dp z) : Int) / shM dp = z) := by
  obtain ⟨P, hP, h2, h3, h4, h5, h6, h7, h8⟩ := dp_cases h
  have hx := mul_bd h4 (fits_bd hP h2 hf)
  have hv : (leV (sampB dp z) : Int) = (z * shM dp) % 256 ^ wideN dp := by
    unfold sampB sampV
    rw [if_neg h1, leV_le]
  rw [hv]
  have key : ∀ (Q R : Int), Q = P * shM dp → R = 2 * Q → 1 ≤ Q → R ≤ 16777216 → (z * shM dp) % R < 16777216 ∧ ((z * shM dp) % R / Q = 1 → ((z * shM dp) % R - 1 * R) / shM dp = z) ∧ (¬ (z * shM dp) % R / Q = 1 → (z * shM dp) % R / shM dp = z) := by
    intro Q R hQ hR hQ1 hR2
    have hzd := mul_div_self (z := z) h4
    generalize hu : z * shM dp = u at *
    have hlt := Int.emod_lt_of_pos u (show 0 < R by omega)
    have hge := Int.emod_nonneg u (show R ≠ 0 by omega)
    rcases Int.lt_or_le u 0 with hneg | hpos
    · have e : u % R = u + R := by
        have h9 := Int.add_mul_emod_self_left u R 1
        rw [Int.mul_one] at h9
        rw [← h9, Int.emod_eq_of_lt (by omega) (by omega)]
      rw [e]
      have hq : (u + R) / Q = 1 := by
        have h10 : u + R = Q * 1 + (u + Q) := by omega
        rw [h10, Int.mul_add_ediv_left _ _ (by omega), Int.ediv_eq_zero_of_lt (by omega) (by omega)]
        rfl
      refine ⟨by omega, fun _ => ?_, fun hh => absurd hq hh⟩
      rw [show u + R - 1 * R = u by omega]
      exact hzd
    · have e : u % R = u := Int.emod_eq_of_lt hpos (by omega)
      rw [e]
      have hq : u / Q = 0 := Int.ediv_eq_zero_of_lt hpos (by omega)
      refine ⟨by omega, fun hh => ?_, fun _ => hzd⟩
      rw [hq] at hh
      cases hh
  rcases h8 with ⟨h9, _⟩ | ⟨h9, h10⟩ | ⟨h9, h10⟩
  · exact absurd h9 h1
  · rw [h9]
    exact key 32768 65536 h10.symm (by decide) (by decide) (by decide)
  · rw [h9]
    exact key 8388608 16777216 h10.symm (by decide) (by decide) (by decide)
end Go.Proofs.YtlpoepmipbegaaaDoor.Wv
