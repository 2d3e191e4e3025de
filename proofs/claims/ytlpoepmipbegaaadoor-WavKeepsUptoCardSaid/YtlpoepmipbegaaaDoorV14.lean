/- wav.Decode at a file that is a track's. -/
import Derived.Test.YtlpoepmipbegaaaDoorV13
set_option linter.unusedVariables false
set_option linter.unusedSimpArgs false
namespace Go.Proofs.YtlpoepmipbegaaaDoor.Wv
open Go Go.RowKit Go.Proofs.YtlpoepmipbegaaaDoor.En
section
variable {P : Program} {n : Nat} {w0 : World} {F : List Nat} {N : Cont} {Q : Exit → Act → World → Prop} {e : Env} {L : List Asn} {ty : TypeId} {pos : String} {af : Array Edge} {g : Option (Nat × Bool)} {dst : Option Nat} {S : World → Prop}
theorem r_remE {x y : Operand} {t yt : TypeId} {a b r : Int} (hx : ev e x = some (.int .i64 a)) (hy : ev e y = some (.int .i64 b)) (h : 0 ≤ a ∧ a ≤ 9223372036854775807 ∧ 0 < b) (hr : a % b = r) :
    Rig P n S e ⟨dst, .binOp .rem t x y yt, ty, pos, af, g⟩ (.int .i64 r) := by subst hr; exact r_rem hx hy h
theorem r_mulE {x y : Operand} {t yt : TypeId} {a b r : Int} (hx : ev e x = some (.int .i64 a)) (hy : ev e y = some (.int .i64 b)) (hr : a * b = r) (h : -9223372036854775808 ≤ r ∧ r ≤ 9223372036854775807) :
    Rig P n S e ⟨dst, .binOp .mul t x y yt, ty, pos, af, g⟩ (.int .i64 r) := by subst hr; exact r_mul hx hy h
/-- One channel, or two. -/
def pairOf {α : Type} (k : Nat) (a b : α) : List α := if k = 1 then [a] else [a, b]
def svCells (k : Nat) (v0 v1 : Sv) : Array Value := (slcs (pairOf k v0 v1)).toArray
theorem pairOf_length {α : Type} {k : Nat} (hk : k = 1 ∨ k = 2) (a b : α) : (pairOf k a b).length = k := by rcases hk with rfl | rfl <;> rfl
theorem svCells_size {k : Nat} (hk : k = 1 ∨ k = 2) (v0 v1 : Sv) : (svCells k v0 v1).size = k := by rcases hk with rfl | rfl <;> rfl
theorem Own.sv0 {w : World} (h : Own w0 F L w) {i b bt k : Nat} {v0 v1 : Sv} (hk : k = 1 ∨ k = 2) (hi : L[i]? = some (bl b bt (svCells k v0 v1))) : w.cell? ⟨b, 0, none⟩ = some (.slice v0.1 v0.2.1 v0.2.2) := by
  rw [h.cell_ hi]
  rcases hk with rfl | rfl <;> rfl
theorem Own.sv1 {w : World} (h : Own w0 F L w) {i b bt k : Nat} {v0 v1 : Sv} (hk : k = 2) (hi : L[i]? = some (bl b bt (svCells k v0 v1))) : w.cell? ⟨b, 1, none⟩ = some (.slice v1.1 v1.2.1 v1.2.2) := by
  rw [h.cell_ hi]
  subst hk; rfl
theorem s_makeSv {d : Nat} {x y : Operand} {t el bytes k : Nat} (hk : k = 1 ∨ k = 2) (ht : P.underlying t = some (.slice el)) (hel : (P.info? el).map (fun i => (i.zero, i.size, i.bytes)) = some (some (.slice none 0 0), 1, bytes)) (hby : bytes ≤ 100)
    (hx : ev e x = some (.int .i64 (k : Int))) (hy : ev e y = some (.int .i64 (k : Int))) (hd : Nat.blt d n = true)
    (h : ∀ b, w0.heap.size ≤ b → At n w0 F N ((d, .slice (some ⟨b, 0, none⟩) k k) :: e) (bl b el (svCells k (none, 0, 0) (none, 0, 0)) :: L)) : At n w0 F (Pw P ⟨some d, .makeSlice t x y, ty, pos, af, g⟩ N Q) e L := by
  refine s_makeSlice ht hel hx hy hd ⟨by omega, Int.le_refl _⟩ ⟨by rcases hk with rfl | rfl <;> omega, by omega⟩ fun b hb => ?_
  have e1 : madeCells (Value.slice none 0 0).cells ((k : Int).toNat * 1) = svCells k (none, 0, 0) (none, 0, 0) := by rw [Int.toNat_natCast]; apply Array.ext'; rcases hk with rfl | rfl <;> simp [madeCells, svCells, pairOf, slcs, Value.cells, List.range_succ, Nat.mod_one]
  rw [e1, Int.toNat_natCast]
  exact h b hb
theorem s_storeSv0 {x y : Operand} {t i b k bt c m : Nat} {A : Option Addr} {v0 v1 : Sv} {agg : Bool} (hk : k = 1 ∨ k = 2) (ht : tyB P t agg 1 = true) (hx : ev e x = some (.pointer (some ⟨b, 0, none⟩))) (hy : ev e y = some (.slice A m c)) (hi : L[i]? = some (bl b bt (svCells k v0 v1)))
    (h : At n w0 F N e (L.set i (bl b bt (svCells k (A, m, c) v1)))) : At n w0 F (Pw P ⟨none, .store t x y, ty, pos, af, g⟩ N Q) e L := by
  refine s_store ht hx hy hi rfl (by rw [svCells_size hk]; rcases hk with rfl | rfl <;> rfl) rfl ?_
  have e1 : put_ (svCells k v0 v1) 0 (Value.slice A m c).cells.toList = svCells k (A, m, c) v1 := by rcases hk with rfl | rfl <;> rfl
  rw [e1]
  exact h
theorem s_storeSv1 {x y : Operand} {t i b k bt c m : Nat} {A : Option Addr} {v0 v1 : Sv} {agg : Bool} (hk : k = 2) (ht : tyB P t agg 1 = true) (hx : ev e x = some (.pointer (some ⟨b, 1, none⟩))) (hy : ev e y = some (.slice A m c)) (hi : L[i]? = some (bl b bt (svCells k v0 v1)))
    (h : At n w0 F N e (L.set i (bl b bt (svCells k v0 (A, m, c))))) : At n w0 F (Pw P ⟨none, .store t x y, ty, pos, af, g⟩ N Q) e L := by
  subst hk
  refine s_store ht hx hy hi rfl rfl rfl ?_
  have e1 : put_ (svCells 2 v0 v1) 1 (Value.slice A m c).cells.toList = svCells 2 v0 (A, m, c) := rfl
  rw [e1]
  exact h
end
def k0 (k n : Nat) : Nat := if k = 1 then n else (n + 1) / 2
def k1 (k n : Nat) : Nat := if k = 1 then 0 else n / 2
theorem k_le (k n : Nat) : k0 k n ≤ n + 1 ∧ k1 k n ≤ n := by
  unfold k0 k1
  split <;> omega
/-- The lists of one channel or of two, the second empty where there is but one. -/
structure Chans (k : Nat) (xs ys : List Int) : Prop where
  two : k = 1 ∨ k = 2
  none_ : k = 1 → ys = []
  len : k = 2 → ys.length = xs.length
theorem Chans.at_ {k n : Nat} {xs ys : List Int} (h : Chans k xs ys) (hn : n < xs.length * k) : ∃ z, (inter (pairOf k xs ys) xs.length)[n]? = some z ∧ (z ∈ xs ∨ k = 2 ∧ z ∈ ys) ∧
    ((n % k = 0 ∧ xs[k0 k n]? = some z ∧ k0 k (n + 1) = k0 k n + 1 ∧ k1 k (n + 1) = k1 k n) ∨ (n % k = 1 ∧ k = 2 ∧ ys[k1 k n]? = some z ∧ k1 k (n + 1) = k1 k n + 1 ∧ k0 k (n + 1) = k0 k n)) := by
  rcases h.two with rfl | rfl
  · have hl : n < xs.length := by omega
    have e0 : xs[n]? = some (xs[n]'hl) := List.getElem?_eq_getElem hl
    refine ⟨xs[n]'hl, ?_, .inl (List.getElem_mem _), .inl ⟨Nat.mod_one n, e0, rfl, rfl⟩⟩
    show (inter [xs] xs.length)[n]? = _
    rw [inter_one xs _ (Nat.le_refl _), List.take_length, e0]
  · have hy := h.len rfl
    have hs : n < 2 * xs.length := by omega
    have e1 := inter_two xs ys xs.length n hs
    by_cases hp : n % 2 = 0
    · have hl : n / 2 < xs.length := by omega
      have e0 : xs[n / 2]? = some (xs[n / 2]'hl) := List.getElem?_eq_getElem hl
      have ek : k0 2 n = n / 2 := by show (n + 1) / 2 = _; omega
      refine ⟨xs[n / 2]'hl, ?_, .inl (List.getElem_mem _), .inl ⟨hp, by rw [ek]; exact e0, ?_, ?_⟩⟩
      · show (inter [xs, ys] xs.length)[n]? = _
        rw [e1, if_pos hp, e0]; rfl
      · show (n + 1 + 1) / 2 = (n + 1) / 2 + 1; omega
      · show (n + 1) / 2 = n / 2; omega
    · have hl : n / 2 < ys.length := by omega
      have e0 : ys[n / 2]? = some (ys[n / 2]'hl) := List.getElem?_eq_getElem hl
      refine ⟨ys[n / 2]'hl, ?_, .inr ⟨rfl, List.getElem_mem _⟩, .inr ⟨by omega, rfl, e0, ?_, ?_⟩⟩
      · show (inter [xs, ys] xs.length)[n]? = _
        rw [e1, if_neg hp, e0]; rfl
      · show (n + 1) / 2 = n / 2 + 1; omega
      · show (n + 1 + 1) / 2 = (n + 1) / 2; omega
theorem Chans.k0_end {k : Nat} {xs ys : List Int} (h : Chans k xs ys) : k0 k (xs.length * k) = xs.length ∧ k1 k (xs.length * k) = ys.length := by
  rcases h.two with rfl | rfl
  · have := h.none_ rfl
    subst this
    exact ⟨Nat.mul_one _, rfl⟩
  · have := h.len rfl
    constructor
    · show (xs.length * 2 + 1) / 2 = _; omega
    · show xs.length * 2 / 2 = _; omega
theorem take_snoc {xs : List Int} {i : Nat} {z : Int} (h : xs[i]? = some z) : ints (xs.take (i + 1)) = ints (xs.take i) ++ [.int .i64 z] := by
  rw [List.take_add_one, h]; simp [ints]
theorem chN_pair (k : Nat) (xs ys : List Int) : chN (pairOf k xs ys) = xs.length := by unfold pairOf; split <;> rfl
theorem data_blk {ch dp rt : Int} {ts : List ByteArray} {chs : List (List Int)} (h : TrackOk ch dp rt ts chs) : ((dataB dp chs (chN chs)).length : Int) = (chN chs : Int) * blk ch dp := by
  have h1 := h.chN
  have h2 := h.shape
  rw [dataB_length, blk, wideN_cast (by omega), ← h1]
  simp
theorem chN_le {ch dp rt : Int} {ts : List ByteArray} {chs : List (List Int)} (h : TrackOk ch dp rt ts chs) : chN chs ≤ 4096 := by
  have h1 := h.chN
  have h2 := h.shape
  cases chs with
  | nil => exact Nat.zero_le _
  | cons a b => exact (h.len a (List.mem_cons_self ..)).1
section
variable {w0 w : World} {F : List Nat} {L : List Asn}
theorem countN (ch dp rt N : Int) (ts : Value) (D : Option Addr) (m c : Nat) (w : World) (h1 : 1 ≤ ch ∧ ch ≤ 2) (h2 : 4 ≤ dp ∧ dp ≤ 24) (hb : 1 ≤ blk ch dp ∧ blk ch dp ≤ 6) (hm : m ≤ 1000000000) (hts : ts.cells = #[ts]) (hN : (m : Int) / blk ch dp = N) :
    Calls Tryd.prog 18 #[.agg #[.int .i64 ch, .int .i64 dp, .int .i64 rt, ts, .slice D m c]] w fun en w1 => ∃ r, en = .returned r ∧ (r = .int .i64 N ∧ Own w [] [] w1) := by
  rw [← hN]; exact count_ ch dp rt ts D m c w h1 h2 hb hm hts
theorem Equal_same (A B : Option Addr) (c c' n m : Nat) (a : List UInt8) (w : World) (hn : a.length = n) (hm : a.length = m) (ha : Rd w A n 1 (u8s a)) (hb : Rd w B m 1 (u8s a)) :
    Calls Tryd.prog 20 #[.slice A n c, .slice B m c'] w fun en w1 => ∃ r, en = .returned r ∧ (r = .bool true ∧ Own w [] [] w1) := by
  have := Equal_ A B c c' n m a a w hn hm ha hb
  simpa using this
abbrev encP (k : Nat) (dp rt : Int) (ts : List ByteArray) (xs ys : List Int) : List UInt8 := fileB (k : Int) dp rt ts (dataB dp (pairOf k xs ys) xs.length)
theorem encB_pair (k : Nat) (dp rt : Int) (ts : List ByteArray) (xs ys : List Int) : encB (k : Int) dp rt ts (pairOf k xs ys) = encP k dp rt ts xs ys := by unfold encB encP; rw [chN_pair]
/-- Encode at one channel or two: it is a track. -/
theorem EncodeP (k : Nat) (dp rt : Int) (T C : Option Addr) (ct cc : Nat) (ts : List ByteArray) (v0 v1 : Sv) (xs ys : List Int) (w : World) (hP : Chans k xs ys) (hok : TrackOk (k : Int) dp rt ts (pairOf k xs ys)) (hT : Rd w T ts.length 1 (strs ts)) (hC : Rd w C k 1 (slcs (pairOf k v0 v1)))
    (h0 : v0.2.1 = xs.length ∧ SlOk v0.1 v0.2.1 v0.2.2 1 (ints xs) ∧ Rd w v0.1 v0.2.1 1 (ints xs)) (h1 : v1.2.1 = ys.length ∧ SlOk v1.1 v1.2.1 v1.2.2 1 (ints ys) ∧ Rd w v1.1 v1.2.1 1 (ints ys)) (hg : Glob w) :
    Calls Tryd.prog 6 #[.agg #[.int .i64 (k : Int), .int .i64 dp, .int .i64 rt, .slice T ts.length ct, .slice C k cc]] w fun en w1 => ∃ r, en = .returned r ∧
      ∃ A' cap', r = .tuple #[.slice A' (encP k dp rt ts xs ys).length cap', .int .i64 0] ∧ BOk A' cap' (encP k dp rt ts xs ys) ∧ Own w [] [SB 5 A' cap' (encP k dp rt ts xs ys)] w1 := by
  have hl : (pairOf k v0 v1).length = k := pairOf_length hP.two v0 v1
  have hch : ChOk w (pairOf k v0 v1) (pairOf k xs ys) := by
    refine ⟨by rw [hl, pairOf_length hP.two], fun i v x hv hx => ?_⟩
    have h0' : v0.2.1 = xs.length ∧ v0.2.1 ≤ v0.2.2 ∧ v0.2.2 ≤ maxLen ∧ Rd w v0.1 v0.2.1 1 (ints xs) := ⟨h0.1, h0.2.1.2.1, h0.2.1.2.2.1, h0.2.2⟩
    have h1' : v1.2.1 = ys.length ∧ v1.2.1 ≤ v1.2.2 ∧ v1.2.2 ≤ maxLen ∧ Rd w v1.1 v1.2.1 1 (ints ys) := ⟨h1.1, h1.2.1.2.1, h1.2.1.2.2.1, h1.2.2⟩
    rcases hP.two with rfl | rfl
    · match i with
      | 0 => obtain rfl : v0 = v := by injection hv
             obtain rfl : xs = x := by injection hx
             exact h0'
      | i + 1 => cases hv
    · match i with
      | 0 => obtain rfl : v0 = v := by injection hv
             obtain rfl : xs = x := by injection hx
             exact h0'
      | 1 => obtain rfl : v1 = v := by injection hv
             obtain rfl : ys = x := by injection hx
             exact h1'
      | i + 2 => cases hv
  have hts : ∀ t ∈ ts, t.size < 4294967281 := fun t ht => by have := isTagF_small (List.all_eq_true.1 hok.tags t ht); omega
  have htn := hok.tagsN
  have key := Encode_ (k : Int) dp rt T C ct cc ts (pairOf k v0 v1) (pairOf k xs ys) w hT hts (by omega) (by rw [hl]; exact hC) hch (by rw [hl]; rcases hP.two with rfl | rfl <;> omega) hg
  rw [hl] at key
  simp only [encB_pair] at key
  refine key.mono ?_
  rintro en w1 ⟨r, rfl, h | h⟩
  · exact absurd hok h.1
  · exact ⟨_, rfl, h.2⟩
end
end Go.Proofs.YtlpoepmipbegaaaDoor.Wv
