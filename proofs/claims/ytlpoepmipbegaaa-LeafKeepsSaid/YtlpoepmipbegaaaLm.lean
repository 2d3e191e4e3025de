/- Plain mathematics of the leaf package: pairs, numbers in four bytes, order of keys. No program in sight. -/
import Derived.Test.YtlpoepmipbegaaaEn
set_option linter.unusedVariables false
set_option linter.unusedSimpArgs false
namespace Go.Proofs.Ytlpoepmipbegaaa.Lm
open Go
abbrev Pr := ByteArray × ByteArray
/-- The cells of some pairs, one behind the other. -/
def fl : List Pr → List Value
  | [] => []
  | p :: r => .string p.1 :: .string p.2 :: fl r
theorem fl_length : ∀ ps : List Pr, (fl ps).length = ps.length * 2
  | [] => rfl
  | p :: r => by simp only [fl, List.length_cons, fl_length r]; omega
theorem fl_append : ∀ a b : List Pr, fl (a ++ b) = fl a ++ fl b
  | [], b => rfl
  | p :: r, b => by simp [fl, fl_append r b]
theorem fl_take : ∀ (ps : List Pr) (k : Nat), (fl ps).take (k * 2) = fl (ps.take k)
  | [], k => by simp [fl]
  | p :: r, 0 => by simp [fl]
  | p :: r, k + 1 => by
    rw [show (k + 1) * 2 = k * 2 + 1 + 1 by omega]
    simp [fl, fl_take r k]
theorem fl_drop : ∀ (ps : List Pr) (k : Nat), (fl ps).drop (k * 2) = fl (ps.drop k)
  | [], k => by simp [fl]
  | p :: r, 0 => by simp [fl]
  | p :: r, k + 1 => by
    rw [show (k + 1) * 2 = k * 2 + 1 + 1 by omega]
    simp [fl, fl_drop r k]
theorem fl_key : ∀ (ps : List Pr) (k : Nat) (p : Pr), ps[k]? = some p → (fl ps)[k * 2]? = some (.string p.1)
  | [], k, p, h => by simp at h
  | q :: r, 0, p, h => by simp at h; subst h; rfl
  | q :: r, k + 1, p, h => by
    rw [show (k + 1) * 2 = k * 2 + 1 + 1 by omega]
    simp only [fl, List.getElem?_cons_succ] at h ⊢
    exact fl_key r k p h
theorem fl_val : ∀ (ps : List Pr) (k : Nat) (p : Pr), ps[k]? = some p → (fl ps)[k * 2 + 1]? = some (.string p.2)
  | [], k, p, h => by simp at h
  | q :: r, 0, p, h => by simp at h; subst h; rfl
  | q :: r, k + 1, p, h => by
    rw [show (k + 1) * 2 + 1 = k * 2 + 1 + 1 + 1 by omega]
    simp only [fl, List.getElem?_cons_succ] at h ⊢
    exact fl_val r k p h
theorem fl_one : ∀ (ps : List Pr) (u : Value), u ∈ fl ps → u.oneCell' = true
  | [], u, h => by cases h
  | p :: r, u, h => by
    simp only [fl, List.mem_cons] at h
    rcases h with rfl | rfl | h
    · rfl
    · rfl
    · exact fl_one r u h
theorem fl_inj : ∀ {a b : List Pr}, fl a = fl b → a = b
  | [], [], _ => rfl
  | [], _ :: _, h => by simp [fl] at h
  | _ :: _, [], h => by simp [fl] at h
  | p :: r, q :: s, h => by
    simp only [fl, List.cons.injEq, Value.string.injEq] at h
    rw [fl_inj h.2.2, Prod.ext h.1 h.2.1]

/-- A number, the highest byte first. -/
def beN (l : List UInt8) : Int := l.foldl (fun a b => a * 256 + (b.toNat : Int)) 0
theorem beN_snoc (l : List UInt8) (b : UInt8) : beN (l ++ [b]) = beN l * 256 + (b.toNat : Int) := by simp [beN]
theorem byte_bd (b : UInt8) : 0 ≤ (b.toNat : Int) ∧ (b.toNat : Int) < 256 := by have := b.toNat_lt; omega
theorem beN_acc : ∀ (l : List UInt8) (a : Int), 0 ≤ a → 0 ≤ l.foldl (fun a b => a * 256 + (b.toNat : Int)) a ∧ l.foldl (fun a b => a * 256 + (b.toNat : Int)) a + 1 ≤ (a + 1) * 256 ^ l.length
  | [], a, h => by simp; omega
  | b :: l, a, h => by
    have hb := byte_bd b
    have ih := beN_acc l (a * 256 + (b.toNat : Int)) (by omega)
    simp only [List.foldl_cons, List.length_cons, Int.pow_succ]
    refine ⟨ih.1, Int.le_trans ih.2 ?_⟩
    rw [Int.mul_comm (256 ^ l.length) 256, ← Int.mul_assoc]
    exact Int.mul_le_mul_of_nonneg_right (by omega) (Int.le_of_lt (Int.pow_pos (by decide)))
theorem beN_bd (l : List UInt8) : 0 ≤ beN l ∧ beN l < 256 ^ l.length := by
  have := beN_acc l 0 (by decide)
  unfold beN
  simp only [Int.zero_add, Int.one_mul] at this
  omega
def num4 (v : ByteArray) : Int := beN v.data.toList
/-- How many bytes some cells take. -/
def sz : List Pr → Int
  | [] => 0
  | p :: r => (2 + (p.1.size : Int) + (p.2.size : Int)) + sz r
theorem sz_append : ∀ a b : List Pr, sz (a ++ b) = sz a + sz b
  | [], b => by simp [sz]
  | p :: r, b => by simp only [List.cons_append, sz, sz_append r b]; omega
theorem sz_nonneg : ∀ l : List Pr, 0 ≤ sz l
  | [] => by simp [sz]
  | p :: r => by have := sz_nonneg r; simp only [sz]; omega
def smallPr (p : Pr) : Prop := p.1.size ≤ 4096 ∧ p.2.size ≤ 4096
theorem sz_le : ∀ l : List Pr, (∀ p ∈ l, smallPr p) → sz l ≤ 8194 * (l.length : Int)
  | [], _ => by simp [sz]
  | p :: r, h => by
    have h1 := h p (by simp)
    have h2 := sz_le r (fun q hq => h q (by simp [hq]))
    unfold smallPr at h1
    simp only [sz, List.length_cons]
    omega
/-- Is a cell in form, behind a key? -/
def keyOk (prev : Option ByteArray) (p : Pr) : Bool :=
  !(p.1.toList == []) && decide ((p.1.size : Int) ≤ 32) && (match prev with | some k => !(Op.bytesLess p.1.toList k.toList || p.1.toList == k.toList) | none => true)
def valOk (br : Bool) (p : Pr) : Bool := if br then decide ((p.2.size : Int) = 4) && decide (num4 p.2 ≠ 0) else decide ((p.2.size : Int) ≤ 48)
def cellOk (br : Bool) (prev : Option ByteArray) (p : Pr) : Bool := keyOk prev p && valOk br p
def rightL (br : Bool) : Option ByteArray → List Pr → Bool
  | _, [] => true
  | prev, p :: r => cellOk br prev p && rightL br (some p.1) r
def headOk (br : Bool) (first : Int) : Bool := if br then decide (1 ≤ first ∧ first < 4294967296) else decide (first = 0)
def rightB (br : Bool) (first : Int) (ps : List Pr) : Bool := decide ((ps.length : Int) ≤ 255) && headOk br first && rightL br none ps
def prevOf (ps : List Pr) (k : Nat) : Option ByteArray := if k = 0 then none else (ps[k - 1]?).map (·.1)
theorem rightL_step {br : Bool} {ps : List Pr} {k : Nat} {p : Pr} (h : ps[k]? = some p) : rightL br (prevOf ps k) (ps.drop k) = (cellOk br (prevOf ps k) p && rightL br (prevOf ps (k + 1)) (ps.drop (k + 1))) := by
  have hk : k < ps.length := (List.getElem?_eq_some_iff.1 h).1
  have hp : ps[k] = p := (List.getElem?_eq_some_iff.1 h).2
  rw [List.drop_eq_getElem_cons hk, hp]
  simp [rightL, prevOf, h]
/-- A node: is it a branch, its first child, its cells. -/
structure Nd where
  br : Bool
  first : Int
  cs : List Pr
def Nd.zero : Nd := ⟨false, 0, []⟩
def Nd.right (N : Nd) : Bool := rightB N.br N.first N.cs
def Nd.size (N : Nd) : Int := (if N.br then 6 else 2) + sz N.cs
def Nd.val (N : Nd) (A : Option Addr) (c : Nat) : Value := .agg #[.bool N.br, .int .i64 N.first, .slice A N.cs.length c]
/-- Where a node is split. -/
def splitGo (ps : List Pr) (top : Int) : Nat → Nat → Nat
  | 0, i => i
  | f + 1, i => if (i : Int) < top ∧ 2 * sz (ps.take i) < sz ps then splitGo ps top f (i + 1) else i
def splitI (ps : List Pr) (top : Int) : Nat := splitGo ps top ps.length 1
theorem splitGo_step (ps : List Pr) (top : Int) (f i : Nat) (h1 : (i : Int) < top) (h2 : 2 * sz (ps.take i) < sz ps) : splitGo ps top (f + 1) i = splitGo ps top f (i + 1) := by
  simp only [splitGo]; rw [if_pos ⟨h1, h2⟩]
theorem splitGo_end (ps : List Pr) (top : Int) (f i : Nat) (h : ¬ ((i : Int) < top ∧ 2 * sz (ps.take i) < sz ps)) : splitGo ps top f i = i := by
  cases f with
  | zero => rfl
  | succ f => simp only [splitGo]; rw [if_neg h]
theorem splitGo_le (ps : List Pr) (top : Int) : ∀ (f i : Nat), (i : Int) ≤ top → i ≤ splitGo ps top f i ∧ (splitGo ps top f i : Int) ≤ top
  | 0, i, h => ⟨Nat.le_refl _, h⟩
  | f + 1, i, h => by
    simp only [splitGo]
    split
    · rename_i hc
      have := splitGo_le ps top f (i + 1) (by omega)
      omega
    · exact ⟨Nat.le_refl _, h⟩
def emptyB : ByteArray := ⟨#[]⟩
def Nd.top (N : Nd) : Int := (N.cs.length : Int) - 1 - (if N.br then 1 else 0)
def splitF (N : Nd) : Nd × ByteArray × Nd × Int :=
  if N.right = false then (.zero, emptyB, .zero, 2)
  else if N.top < 1 then (.zero, emptyB, .zero, 1)
  else
    let i := splitI N.cs N.top
    let mid := N.cs.getD i (emptyB, emptyB)
    (⟨N.br, N.first, N.cs.take i⟩, mid.1, if N.br then ⟨true, num4 mid.2, N.cs.drop (i + 1)⟩ else ⟨false, 0, N.cs.drop i⟩, 0)
theorem rightL_spec {br : Bool} : ∀ {ps : List Pr} {prev : Option ByteArray}, rightL br prev ps = true → ∀ p ∈ ps, p.1.size ≤ 32 ∧ p.2.size ≤ 48 ∧ valOk br p = true
  | [], _, _, p, hp => by cases hp
  | q :: r, prev, h, p, hp => by
    simp only [rightL, Bool.and_eq_true] at h
    rcases List.mem_cons.1 hp with rfl | hp
    · have h1 := h.1
      simp only [cellOk, keyOk, Bool.and_eq_true, decide_eq_true_eq] at h1
      have h2 := h1.2
      refine ⟨by omega, ?_, h2⟩
      unfold valOk at h2
      split at h2
      · simp only [Bool.and_eq_true, decide_eq_true_eq] at h2; omega
      · simp only [decide_eq_true_eq] at h2; omega
    · exact rightL_spec h.2 p hp
theorem right_spec {N : Nd} (h : N.right = true) : N.cs.length ≤ 255 ∧ headOk N.br N.first = true ∧ ∀ p ∈ N.cs, p.1.size ≤ 32 ∧ p.2.size ≤ 48 ∧ valOk N.br p = true := by
  unfold Nd.right rightB at h
  simp only [Bool.and_eq_true, decide_eq_true_eq] at h
  exact ⟨by omega, h.1.2, rightL_spec h.2⟩
theorem right_small {N : Nd} (h : N.right = true) : ∀ p ∈ N.cs, smallPr p := fun p hp => by
  have := (right_spec h).2.2 p hp
  unfold smallPr
  omega
end Go.Proofs.Ytlpoepmipbegaaa.Lm
