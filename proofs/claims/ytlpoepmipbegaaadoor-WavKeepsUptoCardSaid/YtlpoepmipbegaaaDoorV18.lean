/- Things of which nobody knows how many: a heap with an unknown rest; the law's tune, score and Same. -/
import Derived.Test.YtlpoepmipbegaaaDoorV17
set_option linter.unusedVariables false
set_option linter.unusedSimpArgs false
namespace Go.Proofs.YtlpoepmipbegaaaDoor.Wv
open Go Go.RowKit Go.Proofs.YtlpoepmipbegaaaDoor.En
theorem Own.pickT {w0 w : World} {F : List Nat} {l Z : List Asn} (h : Own w0 F (l ++ Z) w) (is : List Nat) (hn : is.Nodup) : Own w0 F (pick l is ++ Z) w := by
  have hm : ∀ x, x ∈ pick l is ++ Z → x ∈ l ++ Z := fun x hx => by
    rcases List.mem_append.1 hx with hx | hx
    · obtain ⟨i, _, e⟩ := mem_pick hx
      exact List.mem_append_left _ (List.mem_of_getElem? e)
    · exact List.mem_append_right _ hx
  refine ⟨h.os, h.tape, h.output, h.size, h.keep, fun x hx => h.ok x (hm x hx), fun x hx => h.new x (hm x hx), ?_⟩
  have hd := h.nd
  rw [List.filterMap_append, List.nodup_append] at hd ⊢
  refine ⟨nd_pick hd.1 hn, hd.2.1, fun a ha b hb => hd.2.2 a ?_ b hb⟩
  obtain ⟨x, hx, hxb⟩ := List.mem_filterMap.1 ha
  obtain ⟨i, _, e⟩ := mem_pick hx
  exact List.mem_filterMap.2 ⟨x, List.mem_of_getElem? e, hxb⟩
section
variable {P : Program} {n : Nat} {w0 : World} {F : List Nat} {e : Env} {L : List Asn} {Q : Exit → Act → World → Prop} {N kn kr : Cont} {kx : List (Nat × Cont)} {ty : TypeId} {pos : String} {af : Array Edge} {g : Option (Nat × Bool)}
theorem x_loopT {c : Code} {σ : Type} (ks is : List Nat) (mk : σ → Env) (hp tl : σ → List Asn) (I : σ → Prop) (μ : σ → Nat) (s0 : σ) (h0 : Sub (mk s0 ++ sel ks e) e) (hL : ∀ w, Own w0 F L w → Own w0 F (hp s0 ++ (pick L is ++ tl s0)) w) (hI : I s0)
    (round : ∀ s, I s → At n w0 F (Cw P c (Qof (Rw n w0 F (fun s => mk s ++ sel ks e) (fun s => hp s ++ (pick L is ++ tl s)) (fun s' => I s' ∧ μ s' < μ s)) kr kx)) (mk s ++ sel ks e) (hp s ++ (pick L is ++ tl s))) : At n w0 F (Cw P (Code.loop c) (Qof kn kr kx)) e L :=
  x_loop (fun s => mk s ++ sel ks e) (fun s => hp s ++ (pick L is ++ tl s)) I μ s0 h0 hL hI round
theorem s_buildNil {d : Nat} {t el size bytes : Nat} {z : Value} (ht : P.underlying t = some (.slice el)) (hel : (P.info? el).map (fun i => (i.zero, i.size, i.bytes)) = some (some z, size, bytes)) (hz : fillB z.cells 0 size [] = some #[]) (hd : Nat.blt d n = true)
    (h : ∀ b, w0.heap.size ≤ b → At n w0 F N ((d, .slice (some ⟨b, 0, none⟩) 0 0) :: e) (sl (some ⟨b, 0, none⟩) 0 el size [] :: L)) : At n w0 F (Pw P ⟨some d, .buildSlice t 0 #[], ty, pos, af, g⟩ N Q) e L := by
  refine s_buildSlice (vs := []) ht hel rfl hz (by simp) hd fun b hb => ?_
  refine x_heap (L' := sl (some ⟨b, 0, none⟩) 0 el size [] :: L) (fun w hO => hO.blsl (by simp) (fun j u hu => by simp at hu)) ?_
  exact h b hb
theorem s_makeRoom {d : Nat} {x y : Operand} {t el size bytes : Nat} {z : Value} {kl kc : IntKind} {c : Int} (m : Nat) (ht : P.underlying t = some (.slice el)) (hel : (P.info? el).map (fun i => (i.zero, i.size, i.bytes)) = some (some z, size, bytes))
    (hx : ev e x = some (.int kl 0)) (hy : ev e y = some (.int kc c)) (hd : Nat.blt d n = true) (hc : c = (m : Int)) (hb : bytes * m ≤ 281474976710656 ∧ m ≤ maxLen)
    (h : ∀ b, w0.heap.size ≤ b → SlOk (some ⟨b, 0, none⟩) 0 m size [] → At n w0 F N ((d, .slice (some ⟨b, 0, none⟩) 0 m) :: e) (sl (some ⟨b, 0, none⟩) m el size [] :: L)) : At n w0 F (Pw P ⟨some d, .makeSlice t x y, ty, pos, af, g⟩ N Q) e L := by
  subst hc
  have h1 := hb.2
  simp only [maxLen] at h1
  refine s_makeSlice ht hel hx hy hd ⟨Int.le_refl _, by omega⟩ ⟨by have := hb.1; rw [← Int.natCast_mul]; omega, by omega⟩ fun b hb2 => ?_
  rw [Int.toNat_natCast]
  refine x_heap (L' := sl (some ⟨b, 0, none⟩) m el size [] :: L) (fun w hO => hO.blsl (size_madeCells _ _) (fun j u hu => by simp at hu)) ?_
  exact h b hb2 (SlOk.made (by simp) (Nat.zero_le _) hb.2)
end
def ZOk (Z : List Asn) (vs : List Sv) (chs : List (List Int)) : Prop :=
  vs.length = chs.length ∧ ∀ (i : Nat) (v : Sv) (xs : List Int), vs[i]? = some v → chs[i]? = some xs → v.2.1 = xs.length ∧ SlOk v.1 v.2.1 v.2.2 1 (ints xs) ∧ sl v.1 v.2.2 3 1 (ints xs) ∈ Z
theorem ZOk.ch {w0 w : World} {F : List Nat} {L Z : List Asn} {vs : List Sv} {chs : List (List Int)} (h : ZOk Z vs chs) (hO : Own w0 F L w) (hZ : ∀ x ∈ Z, x ∈ L) : ChOk w vs chs := by
  refine ⟨h.1, fun i v xs hv hx => ?_⟩
  obtain ⟨h1, h2, h3⟩ := h.2 i v xs hv hx
  obtain ⟨j, hj⟩ := List.getElem?_of_mem (hZ _ h3)
  exact ⟨h1, h2.2.1, h2.2.2.1, hO.rd_sl hj h2⟩
theorem ZOk.snoc {Z : List Asn} {vs : List Sv} {chs : List (List Int)} {v : Sv} {xs : List Int} (h : ZOk Z vs chs) (h1 : v.2.1 = xs.length) (h2 : SlOk v.1 v.2.1 v.2.2 1 (ints xs)) : ZOk (sl v.1 v.2.2 3 1 (ints xs) :: Z) (vs ++ [v]) (chs ++ [xs]) := by
  have hl := h.1
  refine ⟨by simp [hl], fun i u ys hu hy => ?_⟩
  rcases Nat.lt_trichotomy i vs.length with hi | hi | hi
  · rw [List.getElem?_append_left hi] at hu
    rw [List.getElem?_append_left (by omega)] at hy
    obtain ⟨a, b, c⟩ := h.2 i u ys hu hy
    exact ⟨a, b, List.mem_cons_of_mem _ c⟩
  · subst hi
    rw [List.getElem?_append_right (Nat.le_refl _), Nat.sub_self] at hu
    rw [hl, List.getElem?_append_right (Nat.le_refl _), Nat.sub_self] at hy
    obtain rfl : v = u := by injection hu
    obtain rfl : xs = ys := by injection hy
    exact ⟨h1, h2, List.mem_cons_self ..⟩
  · rw [List.getElem?_eq_none (by simp; omega)] at hu; cases hu
end Go.Proofs.YtlpoepmipbegaaaDoor.Wv
