/- Reading off a cursor; a file's shape. -/
import Derived.Test.YtlpoepmipbegaaaDoorV8
set_option linter.unusedVariables false
set_option linter.unusedSimpArgs false
namespace Go.Proofs.YtlpoepmipbegaaaDoor.Wv
open Go Go.RowKit Go.Proofs.YtlpoepmipbegaaaDoor.En
/-- What is left to be read of older memory. -/
structure Cur (w : World) (F : List Nat) (B : Option Addr) (m c : Nat) (rest : List UInt8) : Prop where
  len : m = rest.length
  le : m ≤ c
  max : c ≤ 1000000000000
  rd : Rd w B m 1 (u8s rest)
  ap : 0 < m → ∀ a, B = some a → a.block ∉ F
theorem dropA_block {B : Option Addr} {c n : Nat} {a : Addr} (h : dropA B c n = some a) : ∃ a0, B = some a0 ∧ a0.block = a.block := by
  unfold dropA at h
  split at h
  · exact ⟨a, h, rfl⟩
  · obtain ⟨a0, h1, h2⟩ := Option.map_eq_some_iff.1 h
    exact ⟨a0, h1, by rw [← h2, block_add]⟩
theorem Cur.drop {w : World} {F : List Nat} {B : Option Addr} {m c : Nat} {x rest : List UInt8} (h : Cur w F B m c (x ++ rest)) : Cur w F (dropA B c x.length) (m - x.length) (c - x.length) rest := by
  have hl := h.len
  rw [List.length_append] at hl
  have hle := h.le
  have hmax := h.max
  refine ⟨by omega, by omega, by omega, ?_, fun h0 a ha => ?_⟩
  · have := h.rd.drop_ (k := x.length) (cap := c) (by omega) h.le
    rw [Nat.mul_one] at this
    have e : (u8s (x ++ rest)).drop x.length = u8s rest := by simp [u8s]
    rw [e] at this
    unfold dropA
    rw [Nat.mul_one]
    exact this
  · obtain ⟨a0, h1, h2⟩ := dropA_block ha
    rw [← h2]
    exact h.ap (by omega) a0 h1
theorem Cur.head {w : World} {F : List Nat} {B : Option Addr} {m c : Nat} {x rest : List UInt8} (h : Cur w F B m c (x ++ rest)) : Rd w B x.length 1 (u8s x) := by
  have hl := h.len
  rw [List.length_append] at hl
  have := Rd.take1 h.rd (k := x.length) (by omega)
  simpa using this
theorem Cur.notin {w0 w : World} {F : List Nat} {L : List Asn} {B : Option Addr} {m c : Nat} {rest : List UInt8} (h : Cur w0 F B m c rest) (hw : Own w0 F L w) {i bi t : Nat} {cs : Array Value} (hi : L[i]? = some (bl bi t cs)) (h0 : 0 < m) : ∀ a, B = some a → a.block ∉ [bi] := by
  intro a ha hm
  obtain ⟨ad, e, hlt, _⟩ := h.rd.2.2 h0
  rw [ha] at e
  injection e with e
  subst e
  have hb : a.block = bi := by simpa using hm
  rcases hw.new _ (List.mem_of_getElem? hi) bi rfl with h1 | h1
  · omega
  · exact h.ap h0 a ha (by rw [hb]; exact h1)
theorem leB_toNat (n : Int) (k : Nat) : ((leB n k).toNat : Int) = (n / 256 ^ k) % 256 := by
  rw [← leB_wrap, IntKind.wrap_u8]
theorem leV_le (n : Int) (k : Nat) : (leV (le n k) : Int) = n % 256 ^ k := by
  induction k with
  | zero => simp [le, leV, Int.emod_one]
  | succ k ih =>
    have hp : (0 : Int) < 256 ^ k := Int.pow_pos (by decide)
    have h1 := Int.emod_add_mul_ediv n (256 ^ k)
    have h2 := Int.emod_add_mul_ediv (n / 256 ^ k) 256
    have h3 := Int.emod_nonneg n (show (256 : Int) ^ k ≠ 0 by omega)
    have h4 := Int.emod_lt_of_pos n hp
    have h5 := Int.emod_nonneg (n / 256 ^ k) (show (256 : Int) ≠ 0 by decide)
    have h6 := Int.emod_lt_of_pos (n / 256 ^ k) (show (0 : Int) < 256 by decide)
    have e1 : (leV (le n (k + 1)) : Int) = n % 256 ^ k + 256 ^ k * ((n / 256 ^ k) % 256) := by
      have e0 : leV [leB n k] = (leB n k).toNat := by show (leB n k).toNat + 256 * 0 = _; omega
      rw [le_succ, leV_append, le_length, e0, Int.natCast_add, Int.natCast_mul, ih, leB_toNat, Int.natCast_pow]
      rfl
    rw [e1]
    have e2 : n = (n % 256 ^ k + 256 ^ k * ((n / 256 ^ k) % 256)) + 256 ^ (k + 1) * (n / 256 ^ k / 256) := by
      have e3 : (256 : Int) ^ (k + 1) * (n / 256 ^ k / 256) = 256 ^ k * (256 * (n / 256 ^ k / 256)) := by rw [Int.pow_succ, Int.mul_assoc]
      rw [e3, Int.add_assoc, ← Int.mul_add, h2, h1]
    have h7 : 256 ^ k * ((n / 256 ^ k) % 256) ≤ 256 ^ k * 255 := Int.mul_le_mul_of_nonneg_left (by omega) (by omega)
    have h8 : 0 ≤ 256 ^ k * ((n / 256 ^ k) % 256) := Int.mul_nonneg (by omega) h5
    generalize hA : n % 256 ^ k + 256 ^ k * ((n / 256 ^ k) % 256) = a at *
    generalize hq : n / 256 ^ k / 256 = q at *
    have e4 : n % 256 ^ (k + 1) = a % 256 ^ (k + 1) := by rw [e2, Int.add_mul_emod_self_left]
    rw [e4, Int.emod_eq_of_lt (by omega) (by rw [Int.pow_succ]; omega)]
theorem leV_zero (n : Int) (k : Nat) (h : 0 ≤ n ∧ n < 256 ^ k) : (leV (le n k) : Int) = n := by
  rw [leV_le, Int.emod_eq_of_lt h.1 h.2]
section
variable {w0 w : World} {F : List Nat} {L : List Asn}
theorem takeC {i bi m c : Nat} {B : Option Addr} {bad : Bool} {x rest : List UInt8} (hw : Own w0 F L w) (hi : L[i]? = some (bl bi 56 #[.slice B m c, .bool bad])) (hC : Cur w0 F B m c (x ++ rest)) :
    Calls Tryd.prog 34 #[.pointer (me bi), .int .i64 x.length] w fun en w1 => ∃ r, en = .returned r ∧ (r = .slice B x.length c ∧ ∃ B' m' c', Cur w0 F B' m' c' rest ∧ (∀ w' F', Cur w' F' B m c (x ++ rest) → Cur w' F' B' m' c' rest) ∧ Own w (fb (pick L [i])) [bl bi 56 #[.slice B' m' c', .bool bad]] w1) := by
  have hp : pick L [i] = [bl bi 56 #[.slice B m c, .bool bad]] := by simp only [pick, hi]
  have hS := hw.sub_ [i] (by simp)
  rw [hp] at hS ⊢
  have hl := hC.len
  rw [List.length_append] at hl
  refine (take_ bi B m c x.length bad w (by omega) hC.le hC.max hS).mono ?_
  rintro en w1 ⟨r, rfl, rfl, hO⟩
  exact ⟨_, rfl, rfl, _, _, _, hC.drop, fun _ _ h => h.drop, hO⟩
theorem takeCn {i bi m c n : Nat} {B : Option Addr} {bad : Bool} {x rest : List UInt8} (hw : Own w0 F L w) (hi : L[i]? = some (bl bi 56 #[.slice B m c, .bool bad])) (hC : Cur w0 F B m c (x ++ rest)) (hn : x.length = n) :
    Calls Tryd.prog 34 #[.pointer (me bi), .int .i64 n] w fun en w1 => ∃ r, en = .returned r ∧ (r = .slice B n c ∧ ∃ B' m' c', Cur w0 F B' m' c' rest ∧ (∀ w' F', Cur w' F' B m c (x ++ rest) → Cur w' F' B' m' c' rest) ∧ Own w (fb (pick L [i])) [bl bi 56 #[.slice B' m' c', .bool bad]] w1) := by
  subst hn
  exact takeC hw hi hC
theorem numberC {i bi m c : Nat} {B : Option Addr} {bad : Bool} {x rest : List UInt8} (hw : Own w0 F L w) (hi : L[i]? = some (bl bi 56 #[.slice B m c, .bool bad])) (hC : Cur w0 F B m c (x ++ rest)) (h4 : x.length ≤ 4) (h0 : 0 < m) :
    Calls Tryd.prog 19 #[.pointer (me bi), .int .i64 x.length] w fun en w1 => ∃ r, en = .returned r ∧ (r = .int .i64 (leV x) ∧ ∃ B' m' c', Cur w0 F B' m' c' rest ∧ (∀ w' F', Cur w' F' B m c (x ++ rest) → Cur w' F' B' m' c' rest) ∧ Own w (fb (pick L [i])) [bl bi 56 #[.slice B' m' c', .bool bad]] w1) := by
  have hp : pick L [i] = [bl bi 56 #[.slice B m c, .bool bad]] := by simp only [pick, hi]
  have hS := hw.sub_ [i] (by simp)
  rw [hp] at hS ⊢
  have hl := hC.len
  rw [List.length_append] at hl
  refine (number_ bi B m c x bad w (by omega) hC.le hC.max h4 (hw.rd_old hC.head (hC.ap h0)) (hC.notin hw hi h0) hS).mono ?_
  rintro en w1 ⟨r, rfl, rfl, hO⟩
  exact ⟨_, rfl, rfl, _, _, _, hC.drop, fun _ _ h => h.drop, hO⟩
theorem mustC {i bi m c : Nat} {B : Option Addr} {x rest : List UInt8} (hw : Own w0 F L w) (hi : L[i]? = some (bl bi 56 #[.slice B m c, .bool false])) (hC : Cur w0 F B m c (x ++ rest)) (h0 : 0 < m) :
    Calls Tryd.prog 30 #[.pointer (me bi), .string ⟨x.toArray⟩] w fun en w1 => ∃ r, en = .returned r ∧ (r = .tuple #[] ∧ ∃ B' m' c', Cur w0 F B' m' c' rest ∧ (∀ w' F', Cur w' F' B m c (x ++ rest) → Cur w' F' B' m' c' rest) ∧ Own w (fb (pick L [i])) [bl bi 56 #[.slice B' m' c', .bool false]] w1) := by
  have hp : pick L [i] = [bl bi 56 #[.slice B m c, .bool false]] := by simp only [pick, hi]
  have hS := hw.sub_ [i] (by simp)
  rw [hp] at hS ⊢
  have hl := hC.len
  rw [List.length_append] at hl
  refine (must_ bi B m c x w (by omega) hC.le hC.max (hw.rd_old hC.head (hC.ap h0)) (hC.notin hw hi h0) hS).mono ?_
  rintro en w1 ⟨r, rfl, rfl, hO⟩
  exact ⟨_, rfl, rfl, _, _, _, hC.drop, fun _ _ h => h.drop, hO⟩
theorem wantC {i bi m c k : Nat} {B : Option Addr} {v : Int} {x rest : List UInt8} (hw : Own w0 F L w) (hi : L[i]? = some (bl bi 56 #[.slice B m c, .bool false])) (hC : Cur w0 F B m c (x ++ rest)) (h0 : 0 < m) (hk : x.length = k) (h4 : k ≤ 4) (hv : v = leV x) :
    Calls Tryd.prog 31 #[.pointer (me bi), .int .i64 v, .int .i64 k] w fun en w1 => ∃ r, en = .returned r ∧ (r = .tuple #[] ∧ ∃ B' m' c', Cur w0 F B' m' c' rest ∧ (∀ w' F', Cur w' F' B m c (x ++ rest) → Cur w' F' B' m' c' rest) ∧ Own w (fb (pick L [i])) [bl bi 56 #[.slice B' m' c', .bool false]] w1) := by
  subst hk
  have hp : pick L [i] = [bl bi 56 #[.slice B m c, .bool false]] := by simp only [pick, hi]
  have hS := hw.sub_ [i] (by simp)
  rw [hp] at hS ⊢
  have hl := hC.len
  rw [List.length_append] at hl
  refine (want_ bi B m c x v w hv (by omega) hC.le hC.max h4 (hw.rd_old hC.head (hC.ap h0)) (hC.notin hw hi h0) hS).mono ?_
  rintro en w1 ⟨r, rfl, rfl, hO⟩
  exact ⟨_, rfl, rfl, _, _, _, hC.drop, fun _ _ h => h.drop, hO⟩
/-- The next number, written so. -/
theorem numberL {i bi m c k : Nat} {B : Option Addr} {bad : Bool} {n : Int} {rest : List UInt8} (hw : Own w0 F L w) (hi : L[i]? = some (bl bi 56 #[.slice B m c, .bool bad])) (hC : Cur w0 F B m c (le n k ++ rest)) (h4 : k ≤ 4) (h0 : 0 < m) (hn : 0 ≤ n ∧ n < 256 ^ k) :
    Calls Tryd.prog 19 #[.pointer (me bi), .int .i64 k] w fun en w1 => ∃ r, en = .returned r ∧ (r = .int .i64 n ∧ ∃ B' m' c', Cur w0 F B' m' c' rest ∧ (∀ w' F', Cur w' F' B m c (le n k ++ rest) → Cur w' F' B' m' c' rest) ∧ Own w (fb (pick L [i])) [bl bi 56 #[.slice B' m' c', .bool bad]] w1) := by
  have h := numberC hw hi hC (by rw [le_length]; exact h4) h0
  rw [le_length, leV_zero n k hn] at h
  exact h
end
end Go.Proofs.YtlpoepmipbegaaaDoor.Wv
