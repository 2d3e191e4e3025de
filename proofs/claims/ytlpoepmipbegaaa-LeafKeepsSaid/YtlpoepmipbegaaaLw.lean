/- LeafKeeps: words for the law's walk. -/
import Derived.Test.YtlpoepmipbegaaaLt
set_option linter.unusedVariables false
set_option linter.unusedSimpArgs false
namespace Go.Proofs.Ytlpoepmipbegaaa.Lf
open Go Go.RowKit Go.Proofs.Ytlpoepmipbegaaa.En Go.Proofs.Ytlpoepmipbegaaa.Lm
def bang (i : Nat) : Pr := (⟨#[33]⟩, strOfNums [(i : Int) % 256])
def fillK (ys : List Value) (j k : Nat) : List Value := fl (List.replicate k (bang j)) ++ ys.drop (k * 2)
def putL (ys : List Value) (k : Nat) (vs : List Value) : List Value := ys.take k ++ vs ++ ys.drop (k + vs.length)
theorem fillK_zero (ys : List Value) (j : Nat) : fillK ys j 0 = ys := by simp [fillK, fl]
theorem fl_rep_length (k : Nat) (p : Pr) : (fl (List.replicate k p)).length = k * 2 := by simp [fl_length]
theorem fillK_length (ys : List Value) (j k : Nat) (h : k * 2 ≤ ys.length) : (fillK ys j k).length = ys.length := by
  simp only [fillK, List.length_append, fl_rep_length, List.length_drop]; omega
theorem putL_fillK (ys : List Value) (j k : Nat) : putL (fillK ys j k) (k * 2) [.string (bang j).1, .string (bang j).2] = fillK ys j (k + 1) := by
  have hl := fl_rep_length k (bang j)
  have h1 : (fillK ys j k).take (k * 2) = fl (List.replicate k (bang j)) := by
    rw [fillK, ← hl]; exact List.take_left
  have h2 : (fillK ys j k).drop (k * 2 + 2) = ys.drop ((k + 1) * 2) := by
    rw [fillK, List.drop_append, List.drop_eq_nil_of_le (by omega), hl, show k * 2 + 2 - k * 2 = 2 by omega, List.drop_drop]
    simp; congr 1; omega
  simp only [putL, List.length_cons, List.length_nil]
  rw [h1, h2, fillK, List.replicate_succ', fl_append]
  simp [fl]
theorem fillK_prefix (ys : List Value) (j n cap : Nat) (h : n ≤ cap) (hy : ys.length = cap * 2) : (fillK ys j cap).take (n * 2) = fl (List.replicate n (bang j)) := by
  have h1 : fillK ys j cap = fl (List.replicate cap (bang j)) := by rw [fillK, List.drop_eq_nil_of_le (by omega), List.append_nil]
  rw [h1, fl_take, List.take_replicate, Nat.min_eq_left h]
section
variable {P : Program} {n : Nat} {w0 : World} {F : List Nat} {e : Env} {L : List Asn} {Q : Exit → Act → World → Prop} {N : Cont} {S : World → Prop} {ty : TypeId} {pos : String} {af : Array Edge} {g : Option (Nat × Bool)}
/-- All cells of a slice of the call's own have some content. -/
theorem x_full {A : Option Addr} {cap el m size : Nat} {xs : List Value} (hk : SlOk A m cap size xs) (h : ∀ ys : List Value, ys.length = cap * size → ys.take xs.length = xs → At n w0 F N e (sl A cap el size ys :: L)) : At n w0 F N e (sl A cap el size xs :: L) := by
  cases A with
  | none =>
    obtain ⟨h1, h2⟩ := hk.2.2.2.1 rfl
    subst h1; subst h2
    have hx : xs = [] := List.eq_nil_of_length_eq_zero (by simpa using hk.1)
    subst hx
    exact h [] (by simp) rfl
  | some a =>
    obtain ⟨b, rfl⟩ := hk.2.2.2.2 a rfl
    refine At.mk_ fun ac w hs ho => ?_
    obtain ⟨cs, hcs, hx, hO⟩ := ho.open_
    refine (h cs.toList (by simpa using hcs) ?_).go_ hs (hO.blsl hcs (fun j u hu => by simpa using hu))
    apply List.ext_getElem?
    intro j
    rcases Nat.lt_or_ge j xs.length with hj | hj
    · rw [List.getElem?_take_of_lt hj, List.getElem?_eq_getElem hj]
      have := hx j _ (List.getElem?_eq_getElem hj)
      simpa using this
    · rw [List.getElem?_eq_none (by rw [List.length_take]; omega), List.getElem?_eq_none hj]
/-- A store into a slice of the call's own whose cells are all known. -/
theorem s_store_sl {x y : Operand} {t i b k el m cap size : Nat} {v : Value} {ys : List Value} {agg : Bool} (ht : tyB P t agg m = true) (hx : ev e x = some (.pointer (some (Addr.add ⟨b, 0, none⟩ k)))) (hy : ev e y = some v) (hi : L[i]? = some (sl (some ⟨b, 0, none⟩) cap el size ys)) (hfull : ys.length = cap * size) (hm : v.cells.size = m) (hk : k + m ≤ ys.length)
    (h1 : v.cells.toList.all (·.oneCell') = true) (h : At n w0 F N e (L.set i (sl (some ⟨b, 0, none⟩) cap el size (putL ys k v.cells.toList)))) : At n w0 F (Pw P ⟨none, .store t x y, ty, pos, af, g⟩ N Q) e L := by
  refine Pw.mk_ fun a w hs ho => ?_
  obtain ⟨o, hg, cur, rfl, hsz, hc⟩ := ho.ok (sl (some ⟨b, 0, none⟩) cap el size ys) (List.mem_of_getElem? hi) b (by simp [sl])
  have hcur : cur = ys.toArray := by
    apply Array.ext'
    apply List.ext_getElem?
    intro j
    rcases Nat.lt_or_ge j ys.length with hj | hj
    · have := hc j _ (List.getElem?_eq_getElem hj)
      rw [List.getElem?_eq_getElem hj]
      simpa using this
    · rw [List.getElem?_eq_none (by simp; omega), List.getElem?_eq_none (by simpa using hj)]
  subst hcur
  rw [add_lit, Nat.zero_add] at hx
  have hl : v.cells.toList.length = m := by simpa using hm
  have hst := run_store_at (P := P) (b := b) (bt := el) ht hm hg (k := k) (by simpa using hk) (fun u hu => List.all_eq_true.1 h1 u hu)
  have hrun : (execOp a.eval ⟨none, .store t x y, ty, pos, af, g⟩).run P w = .ok .skip (w.setRow b (put_ ys.toArray k v.cells.toList)) := by
    simp [execOp, hs.ev_ hx, hs.ev_ hy, hst]
  simp only [Oper.wp, hrun, Oper.upon]
  refine h.go_ hs (ho.write_ (g := b) (y := sl (some ⟨b, 0, none⟩) cap el size (putL ys k v.cells.toList)) (o := .cells (put_ ys.toArray k v.cells.toList) el (0, 0)) hi (by simp [sl]) (by simp [sl]) rfl rfl rfl ?_ ?_ ⟨_, rfl, ?_, fun j u hu => ?_⟩ (fun c hcb => ?_))
  · simp [World.setRow]
  · simp [World.setRow, Array.getElem?_modify, hg]
  · simp only [put_, List.size_toArray, List.length_append, List.length_take, List.length_drop]
    omega
  · simpa [put_, putL] using hu
  · simp only [World.setRow, Array.getElem?_modify]
    rw [if_neg (fun hh => hcb hh.symm)]
end
def fillS (size : Nat) : List Value → List (Nat × Value) → Option (List Value)
  | cs, [] => some cs
  | cs, (i, v) :: rest => bif Nat.beq v.cells.toList.length size && Nat.ble (i * size + size) cs.length then fillS size (cs.take (i * size) ++ (v.cells.toList ++ cs.drop (i * size + size))) rest else none
theorem fill_of_fillS {size : Nat} : ∀ (ps : List (Nat × Value)) (cs : Array Value) (cl : List Value), fillS size cs.toList ps = some cl → Instr.fill (fun i => some (i * size, size)) cs ps = some cl.toArray
  | [], cs, cl, h => by simp [fillS] at h; subst h; simp [Instr.fill]
  | (i, v) :: rest, cs, cl, h => by
    simp only [fillS] at h
    cases hb : (Nat.beq v.cells.toList.length size && Nat.ble (i * size + size) cs.toList.length) with
    | false => rw [hb] at h; cases h
    | true =>
      rw [hb] at h
      simp only [cond_true] at h
      simp only [Bool.and_eq_true] at hb
      have h1 : v.cells.toList.length = size := Nat.eq_of_beq_eq_true hb.1
      have h2 : i * size + size ≤ cs.toList.length := Nat.le_of_ble_eq_true hb.2
      have h3 : v.cells.size = size := by simpa using h1
      have hfold : (v.cells.zipIdx.foldl (fun cs (x : Value × Nat) => cs.setIfInBounds (i * size + x.2) x.1) cs).toList = cs.toList.take (i * size) ++ (v.cells.toList ++ cs.toList.drop (i * size + size)) := by
        have := foldl_splice (i * size) v.cells.toList 0 cs (by simp at h2 ⊢; omega)
        rw [← Array.foldl_toList]
        simp only [Array.toList_zipIdx]
        rw [this, h1, Nat.add_zero]
      rw [← hfold] at h
      have ih := fill_of_fillS rest _ cl h
      simp only [Instr.fill]
      rw [if_neg (by simp at h2; simp [h3]; omega)]
      exact ih
theorem fillB_of {zc : Array Value} {len size : Nat} {ps : List (Nat × Value)} {cl : List Value} (h : fillS size ((List.range (len * size)).map (zc[· % zc.size]!)) ps = some cl) : fillB zc len size ps = some cl.toArray := by
  unfold fillB
  exact fill_of_fillS _ _ _ (by simpa using h)
theorem Own.slw {w0 w : World} {F : List Nat} {L : List Asn} {A : Option Addr} {cap el size : Nat} {ys xs : List Value} (h : Own w0 F (sl A cap el size ys :: L) w) (hp : ys.take xs.length = xs) : Own w0 F (sl A cap el size xs :: L) w :=
  h.head_ (by simp [sl]) fun o ho => by
    obtain ⟨cur, h1, h2, h3⟩ := ho
    refine ⟨cur, h1, h2, fun j u hu => h3 j u ?_⟩
    have hj : j < xs.length := (List.getElem?_eq_some_iff.1 hu).1
    rw [← hp, List.getElem?_take_of_lt hj] at hu
    exact hu
theorem SlOk.some_ {A : Option Addr} {n cap size : Nat} {xs : List Value} (h : SlOk A n cap size xs) (hc : 0 < cap) : ∃ b, A = some ⟨b, 0, none⟩ := by
  cases A with
  | none => have := (h.2.2.2.1 rfl).2; omega
  | some a => obtain ⟨b, rfl⟩ := h.2.2.2.2 a rfl; exact ⟨b, rfl⟩
theorem SlOk.other {A : Option Addr} {n cap size : Nat} {xs ys : List Value} (h : SlOk A n cap size xs) (hl : ys.length = xs.length) : SlOk A n cap size ys := ⟨hl.trans h.1, h.2.1, h.2.2.1, h.2.2.2.1, h.2.2.2.2⟩
theorem rep_val (n k : Nat) (p : Pr) (h : k < n) : (fl (List.replicate n p))[k * 2 + 1]? = some (.string p.2) := fl_val _ _ _ (by simp [h])
theorem spare_cell (ps : List Pr) (n j q : Nat) (u : Value) (hn : ps.length = n) (hj : j < 2) (hq : [Value.string emptyB, Value.string emptyB][q]? = some u) : (fl ps ++ zeros2)[(n + j) * 2 + q]? = some u := by
  have hl := fl_length ps
  have hq2 : q < 2 := (List.getElem?_eq_some_iff.1 hq).1
  rw [List.getElem?_append_right (by omega), hl, hn, show (n + j) * 2 + q - n * 2 = j * 2 + q by omega]
  have h1 : j = 0 ∨ j = 1 := by omega
  have h2 : q = 0 ∨ q = 1 := by omega
  rcases h1 with rfl | rfl <;> rcases h2 with rfl | rfl <;> exact hq
end Go.Proofs.Ytlpoepmipbegaaa.Lf
