/- An engine for walks: a symbolic frame (which slots hold what), a symbolic heap (what the call's own blocks hold), and one rule for each operation. -/
import Derived.Test.YtlpoepmipbegaaaDoorWd
import Derived.Laws.Tables
import Derived.Laws.Cells
import Derived.Laws.Shifts
import Derived.Great.BuildSlice
import Derived.Laws.Slices
import Derived.Laws.Strings
import Derived.Laws.BytesString
import Derived.Laws.BytesArg
import Derived.WalkLawsBesides
import Derived.Lib.LazyBuf
import Derived.OrdersHeld
import Derived.Deep.LoopGhost
set_option linter.unusedVariables false
set_option linter.unusedSimpArgs false
namespace Go.Proofs.YtlpoepmipbegaaaDoor.En
open Go Go.RowKit

/-! ### the frame -/
abbrev Env := List (Nat × Value)
def get : Env → Nat → Option Value
  | [], _ => none
  | (d, v) :: r, t => bif Nat.beq d t then some v else get r t
def ev (e : Env) : Operand → Option Value
  | .tmp t => get e t
  | .const v => some v
  | .global g => some (.pointer (some ⟨g, 0, none⟩))
  | .func f => some (.func (.func f) #[] #[])
def evs (e : Env) : List Operand → Option (List Value)
  | [] => some []
  | x :: r => match ev e x, evs e r with
    | some v, some vs => some (v :: vs)
    | _, _ => none
structure St (n : Nat) (e : Env) (a : Act) : Prop where
  size : a.tmps.size = n
  defers : a.defers = []
  agr : ∀ t v, get e t = some v → a.tmps[t]? = some v
theorem St.ev_ {n : Nat} {e : Env} {a : Act} (h : St n e a) {x : Operand} {v : Value} (hx : ev e x = some v) : a.eval x = v := by
  cases x with
  | tmp t => simp [Act.eval, h.agr t v hx]
  | const u => simpa [ev, Act.eval] using hx
  | global g => simpa [ev, Act.eval] using hx
  | func f => simpa [ev, Act.eval] using hx
theorem St.evs_ {n : Nat} {e : Env} {a : Act} (h : St n e a) : ∀ {xs : List Operand} {vs : List Value}, evs e xs = some vs → xs.map a.eval = vs
  | [], vs, hx => by simp [evs] at hx; simp [hx]
  | x :: r, vs, hx => by
    simp only [evs] at hx
    split at hx
    · rename_i v vs' h1 h2
      simp only [Option.some.injEq] at hx
      subst hx
      simp [h.ev_ h1, St.evs_ h h2]
    · cases hx
theorem St.put_ {n : Nat} {e : Env} {a : Act} (h : St n e a) {d : Nat} (hd : Nat.blt d n = true) (v : Value) : St n ((d, v) :: e) (a.put (some d) v) := by
  have hd' : d < n := by simpa using hd
  refine ⟨by simp [Act.put, h.size], h.defers, fun t u hu => ?_⟩
  simp only [get] at hu
  cases hb : Nat.beq d t with
  | true =>
    rw [hb] at hu
    have : d = t := Nat.eq_of_beq_eq_true hb
    subst this
    simp only [cond_true, Option.some.injEq] at hu
    subst hu
    simp [Act.put, h.size, hd']
  | false =>
    rw [hb] at hu
    have hne : d ≠ t := Nat.ne_of_beq_eq_false hb
    simp only [cond_false] at hu
    simp only [Act.put]
    rw [Array.getElem?_setIfInBounds_ne hne]
    exact h.agr t u hu
theorem St.skip_ {n : Nat} {e : Env} {a : Act} (h : St n e a) (v : Value) : St n e (a.put none v) := h
/-- What the smaller frame tells the greater one tells too. -/
def Sub : Env → Env → Prop
  | [], _ => True
  | (d, v) :: r, e => get e d = some v ∧ Sub r e
theorem Sub.get_ : ∀ {s e : Env}, Sub s e → ∀ {t : Nat} {v : Value}, get s t = some v → get e t = some v
  | [], _, _, _, _, h => by simp [get] at h
  | (d, u) :: r, e, hs, t, v, h => by
    simp only [get] at h
    cases hb : Nat.beq d t with
    | true =>
      rw [hb] at h
      have : d = t := Nat.eq_of_beq_eq_true hb
      subst this
      simp only [cond_true, Option.some.injEq] at h
      subst h
      exact hs.1
    | false => rw [hb] at h; exact Sub.get_ hs.2 h
theorem St.sub {n : Nat} {s e : Env} {a : Act} (h : St n e a) (hs : Sub s e) : St n s a := ⟨h.size, h.defers, fun t v ht => h.agr t v (hs.get_ ht)⟩

/-! ### the heap -/
structure Asn where
  blk : Option Nat
  ok : Obj → Prop
structure Own (w0 : World) (F : List Nat) (L : List Asn) (w : World) : Prop where
  os : w.os = w0.os
  tape : w.tape = w0.tape
  output : w.output = w0.output
  size : w0.heap.size ≤ w.heap.size
  keep : ∀ b, b < w0.heap.size → b ∉ F → w.heap[b]? = w0.heap[b]?
  ok : ∀ x ∈ L, ∀ b, x.blk = some b → ∃ o, w.heap[b]? = some o ∧ x.ok o
  new : ∀ x ∈ L, ∀ b, x.blk = some b → w0.heap.size ≤ b ∨ b ∈ F
  nd : (L.filterMap (·.blk)).Nodup
def bl (g : Nat) (t : TypeId) (cs : Array Value) : Asn := ⟨some g, fun o => o = .cells cs t (0, 0)⟩
def blf (g : Nat) (t : TypeId) (cs : Array Value) (fr : Nat × Nat) : Asn := ⟨some g, fun o => o = .cells cs t fr⟩
/-- A slice of the call's own: nil, or from the head of a block of its own, whose first cells are xs. -/
def sl (A : Option Addr) (cap : Nat) (e size : Nat) (xs : List Value) : Asn :=
  ⟨A.map (·.block), fun o => ∃ cur : Array Value, o = .cells cur e (0, 0) ∧ cur.size = cap * size ∧ ∀ (j : Nat) (u : Value), xs[j]? = some u → cur[j]? = some u⟩
def SlOk (A : Option Addr) (n cap size : Nat) (xs : List Value) : Prop :=
  xs.length = n * size ∧ n ≤ cap ∧ cap ≤ maxLen ∧ (A = none → n = 0 ∧ cap = 0) ∧ ∀ a, A = some a → ∃ g, a = ⟨g, 0, none⟩
theorem SlOk.made {b m cap size : Nat} {xs : List Value} (h1 : xs.length = m * size) (h2 : m ≤ cap) (h3 : cap ≤ maxLen) : SlOk (some ⟨b, 0, none⟩) m cap size xs := ⟨h1, h2, h3, fun h => (by cases h), fun a h => (by injection h with h; exact ⟨b, h.symm⟩)⟩
/-- A slice that is read: its cells are xs. -/
def Rd (w : World) (A : Option Addr) (n size : Nat) (xs : List Value) : Prop :=
  xs.length = n * size ∧ n ≤ maxLen ∧ (0 < n → ∃ ad, A = some ad ∧ ad.block < w.heap.size ∧ ∀ (j : Nat) (u : Value), xs[j]? = some u → w.cell? (ad.add j) = some u)

section
variable {w0 w w' : World} {F F' : List Nat} {L L' : List Asn}
theorem Own.refl_ (w : World) (F : List Nat) : Own w F [] w :=
  ⟨rfl, rfl, rfl, Nat.le_refl _, fun _ _ _ => rfl, fun _ h => (by cases h), fun _ h => (by cases h), List.nodup_nil⟩
theorem Own.drew_ (h : Own w0 F L w) : Own w0 F L w.drew := ⟨h.os, h.tape, h.output, h.size, h.keep, h.ok, h.new, h.nd⟩
theorem Own.draw_ (h : Own w0 F L w) (k : Nat) : Own w0 F L { w with drawn := k } := ⟨h.os, h.tape, h.output, h.size, h.keep, h.ok, h.new, h.nd⟩
theorem Own.lt_ (h : Own w0 F L w) {x : Asn} (hx : x ∈ L) {b : Nat} (hb : x.blk = some b) : b < w.heap.size := by
  obtain ⟨o, ho, _⟩ := h.ok x hx b hb
  exact (Array.getElem?_eq_some_iff.1 ho).1
theorem Own.below (h : Own w0 [] L w) : Below w0.heap.size w0 w := ⟨h.os, h.tape, h.output, h.size, fun k hk => h.keep k hk (by simp)⟩
theorem Own.alloc_ (h : Own w0 F L w) (x : Asn) (o : Obj) (hb : x.blk = some w.heap.size) (ho : x.ok o) : Own w0 F (x :: L) (w.alloc o) := by
  refine ⟨h.os, h.tape, h.output, Nat.le_trans h.size (by simp), fun b hb hF => (Below.heap_alloc w o b (Nat.lt_of_lt_of_le hb h.size)).trans (h.keep b hb hF), ?_, ?_, ?_⟩
  · intro y hy b hyb
    rcases List.mem_cons.1 hy with rfl | hy
    · rw [hb] at hyb
      injection hyb with hyb
      subst hyb
      exact ⟨o, heap_alloc_new w o, ho⟩
    · obtain ⟨o', h1, h2⟩ := h.ok y hy b hyb
      exact ⟨o', (Below.heap_alloc w o b (h.lt_ hy hyb)).trans h1, h2⟩
  · intro y hy b hyb
    rcases List.mem_cons.1 hy with rfl | hy
    · rw [hb] at hyb
      injection hyb with hyb
      subst hyb
      exact .inl h.size
    · exact h.new y hy b hyb
  · rw [List.filterMap_cons_some hb]
    refine List.nodup_cons.2 ⟨fun hm => ?_, h.nd⟩
    obtain ⟨y, hy, hyb⟩ := List.mem_filterMap.1 hm
    exact Nat.lt_irrefl _ (h.lt_ hy hyb)
/-- Some of what is known. -/
def pick (L : List Asn) : List Nat → List Asn
  | [] => []
  | i :: r => match L[i]? with
    | some x => x :: pick L r
    | none => pick L r
theorem mem_pick {x : Asn} : ∀ {is : List Nat}, x ∈ pick L is → ∃ i ∈ is, L[i]? = some x
  | [], h => by cases h
  | i :: r, h => by
    simp only [pick] at h
    split at h
    · rename_i y hy
      rcases List.mem_cons.1 h with rfl | h
      · exact ⟨i, by simp, hy⟩
      · obtain ⟨j, hj, e⟩ := mem_pick h
        exact ⟨j, by simp [hj], e⟩
    · obtain ⟨j, hj, e⟩ := mem_pick h
      exact ⟨j, by simp [hj], e⟩
theorem nd_at : ∀ {L : List Asn}, (L.filterMap (·.blk)).Nodup → ∀ {i j : Nat} {x y : Asn} {b : Nat}, L[i]? = some x → L[j]? = some y → x.blk = some b → y.blk = some b → i = j
  | [], _, i, _, _, _, _, h, _, _, _ => by simp at h
  | z :: L, hn, i, j, x, y, b, hi, hj, hx, hy => by
    cases hz : z.blk with
    | none =>
      rw [List.filterMap_cons_none hz] at hn
      cases i with
      | zero => simp only [List.getElem?_cons_zero, Option.some.injEq] at hi; subst hi; rw [hz] at hx; cases hx
      | succ i =>
        cases j with
        | zero => simp only [List.getElem?_cons_zero, Option.some.injEq] at hj; subst hj; rw [hz] at hy; cases hy
        | succ j => simp only [List.getElem?_cons_succ] at hi hj; rw [nd_at hn hi hj hx hy]
    | some c =>
      rw [List.filterMap_cons_some hz, List.nodup_cons] at hn
      cases i with
      | zero =>
        simp only [List.getElem?_cons_zero, Option.some.injEq] at hi
        subst hi
        rw [hz] at hx
        injection hx with hx
        subst hx
        cases j with
        | zero => rfl
        | succ j => exact absurd (List.mem_filterMap.2 ⟨y, List.mem_of_getElem? (by simpa using hj), hy⟩) hn.1
      | succ i =>
        cases j with
        | zero =>
          simp only [List.getElem?_cons_zero, Option.some.injEq] at hj
          subst hj
          rw [hz] at hy
          injection hy with hy
          subst hy
          exact absurd (List.mem_filterMap.2 ⟨x, List.mem_of_getElem? (by simpa using hi), hx⟩) hn.1
        | succ j => simp only [List.getElem?_cons_succ] at hi hj; rw [nd_at hn.2 hi hj hx hy]
theorem nd_pick (hn : (L.filterMap (·.blk)).Nodup) : ∀ {is : List Nat}, is.Nodup → ((pick L is).filterMap (·.blk)).Nodup
  | [], _ => by simp [pick]
  | i :: r, hi => by
    simp only [pick]
    have ih := nd_pick hn (List.nodup_cons.1 hi).2
    split
    · rename_i x hx
      cases hb : x.blk with
      | none => rw [List.filterMap_cons_none hb]; exact ih
      | some b =>
        rw [List.filterMap_cons_some hb]
        refine List.nodup_cons.2 ⟨fun hm => ?_, ih⟩
        obtain ⟨y, hy, hyb⟩ := List.mem_filterMap.1 hm
        obtain ⟨j, hj, hyj⟩ := mem_pick hy
        have := nd_at hn hx hyj hb hyb
        subst this
        exact (List.nodup_cons.1 hi).1 hj
    · exact ih
theorem Own.pick_ (h : Own w0 F L w) (is : List Nat) (hn : is.Nodup) : Own w0 F (pick L is) w :=
  ⟨h.os, h.tape, h.output, h.size, h.keep, fun x hx b hb => by obtain ⟨i, _, e⟩ := mem_pick hx; exact h.ok x (List.mem_of_getElem? e) b hb,
    fun x hx b hb => by obtain ⟨i, _, e⟩ := mem_pick hx; exact h.new x (List.mem_of_getElem? e) b hb, nd_pick h.nd hn⟩
theorem Own.tail_ {x : Asn} (h : Own w0 F (x :: L) w) : Own w0 F L w :=
  ⟨h.os, h.tape, h.output, h.size, h.keep, fun y hy => h.ok y (List.mem_cons_of_mem _ hy), fun y hy => h.new y (List.mem_cons_of_mem _ hy), by
    have := h.nd
    cases hb : x.blk with
    | none => rwa [List.filterMap_cons_none hb] at this
    | some b => rw [List.filterMap_cons_some hb] at this; exact (List.nodup_cons.1 this).2⟩
/-- The first of what is known, told otherwise. -/
theorem Own.head_ {x y : Asn} (h : Own w0 F (x :: L) w) (hb : y.blk = x.blk) (ho : ∀ o, x.ok o → y.ok o) : Own w0 F (y :: L) w :=
  ⟨h.os, h.tape, h.output, h.size, h.keep, fun z hz b hzb => by
      rcases List.mem_cons.1 hz with rfl | hz
      · obtain ⟨o, h1, h2⟩ := h.ok x (by simp) b (by rw [← hb]; exact hzb)
        exact ⟨o, h1, ho o h2⟩
      · exact h.ok z (by simp [hz]) b hzb,
    fun z hz b hzb => by
      rcases List.mem_cons.1 hz with rfl | hz
      · exact h.new x (by simp) b (by rw [← hb]; exact hzb)
      · exact h.new z (by simp [hz]) b hzb, by
    have := h.nd
    cases hx : x.blk with
    | none => rw [List.filterMap_cons_none hx] at this; rw [List.filterMap_cons_none (hb.trans hx)]; exact this
    | some b => rw [List.filterMap_cons_some hx] at this; rw [List.filterMap_cons_some (hb.trans hx)]; exact this⟩
theorem Own.blsl {b el cap size : Nat} {cs : Array Value} {xs : List Value} (h : Own w0 F (bl b el cs :: L) w) (hs : cs.size = cap * size) (hx : ∀ (j : Nat) (u : Value), xs[j]? = some u → cs[j]? = some u) : Own w0 F (sl (some ⟨b, 0, none⟩) cap el size xs :: L) w :=
  h.head_ rfl (fun o ho => ⟨cs, ho, hs, hx⟩)
theorem Own.open_ {b el cap size : Nat} {xs : List Value} (h : Own w0 F (sl (some ⟨b, 0, none⟩) cap el size xs :: L) w) : ∃ cs : Array Value, cs.size = cap * size ∧ (∀ (j : Nat) (u : Value), xs[j]? = some u → cs[j]? = some u) ∧ Own w0 F (bl b el cs :: L) w := by
  obtain ⟨o, h1, cs, rfl, h2, h3⟩ := h.ok (sl (some ⟨b, 0, none⟩) cap el size xs) (by simp) b rfl
  refine ⟨cs, h2, h3, ?_⟩
  have h4 : Own w0 F (⟨some b, fun o => w.heap[b]? = some o⟩ :: L) w := by
    refine ⟨h.os, h.tape, h.output, h.size, h.keep, fun z hz c hzc => ?_, fun z hz c hzc => ?_, h.nd⟩
    · rcases List.mem_cons.1 hz with rfl | hz
      · injection hzc with hzc
        subst hzc
        exact ⟨_, h1, h1⟩
      · exact h.ok z (by simp [hz]) c hzc
    · rcases List.mem_cons.1 hz with rfl | hz
      · exact h.new (sl (some ⟨b, 0, none⟩) cap el size xs) (by simp) c hzc
      · exact h.new z (by simp [hz]) c hzc
  exact h4.head_ rfl (fun o ho => by rw [h1] at ho; injection ho with ho; exact ho.symm)
theorem Own.none_ (h : Own w0 F L w) : Own w0 F [] w := h.pick_ [] List.nodup_nil
/-- Less is known of each. -/
theorem Own.weak_ (h : Own w0 F L w) (hl : L'.map (·.blk) = L.map (·.blk)) (hw : ∀ (i : Nat) (x y : Asn), L[i]? = some x → L'[i]? = some y → ∀ o, x.ok o → y.ok o) : Own w0 F L' w := by
  have hlen : L'.length = L.length := by simpa using congrArg List.length hl
  have hget : ∀ (i : Nat) (x y : Asn), L[i]? = some x → L'[i]? = some y → y.blk = x.blk := by
    intro i x y hx hy
    have h1 : (L'.map (·.blk))[i]? = (L.map (·.blk))[i]? := by rw [hl]
    simpa [hx, hy] using h1
  have hf : ∀ K : List Asn, K.filterMap (·.blk) = (K.map (·.blk)).filterMap id := fun K => by rw [List.filterMap_map]; rfl
  refine ⟨h.os, h.tape, h.output, h.size, h.keep, ?_, ?_, by rw [hf, hl, ← hf]; exact h.nd⟩
  · intro y hy b hb
    obtain ⟨i, hi, e⟩ := List.mem_iff_getElem.1 hy
    have hy' : L'[i]? = some y := by rw [List.getElem?_eq_getElem hi, e]
    have hx : L[i]? = some (L[i]'(by omega)) := List.getElem?_eq_getElem _
    obtain ⟨o, h1, h2⟩ := h.ok _ (List.mem_of_getElem? hx) b (by rw [← hget i _ y hx hy']; exact hb)
    exact ⟨o, h1, hw i _ _ hx hy' o h2⟩
  · intro y hy b hb
    obtain ⟨i, hi, e⟩ := List.mem_iff_getElem.1 hy
    have hy' : L'[i]? = some y := by rw [List.getElem?_eq_getElem hi, e]
    have hx : L[i]? = some (L[i]'(by omega)) := List.getElem?_eq_getElem _
    exact h.new _ (List.mem_of_getElem? hx) b (by rw [← hget i _ y hx hy']; exact hb)
/-- Behind a call that makes L', may write the blocks F', and leaves all others: what was known of the others is known still. -/
theorem Own.call_ (h : Own w0 F L w) (h' : Own w F' L' w') (is : List Nat) (hn : is.Nodup) (hF : ∀ b ∈ F', b ∈ F ∨ w0.heap.size ≤ b)
    (hR : ∀ x ∈ pick L is, ∀ b, x.blk = some b → b ∉ F') : Own w0 F (L' ++ pick L is) w' := by
  have hp := h.pick_ is hn
  refine ⟨h'.os.trans h.os, h'.tape.trans h.tape, h'.output.trans h.output, Nat.le_trans h.size h'.size, ?_, ?_, ?_, ?_⟩
  · intro b hb hbF
    rw [h'.keep b (Nat.lt_of_lt_of_le hb h.size) (fun hm => by rcases hF b hm with h1 | h1; exact hbF h1; omega)]
    exact h.keep b hb hbF
  · intro x hx b hb
    rcases List.mem_append.1 hx with hx | hx
    · exact h'.ok x hx b hb
    · obtain ⟨o, h1, h2⟩ := hp.ok x hx b hb
      exact ⟨o, (h'.keep b (hp.lt_ hx hb) (hR x hx b hb)).trans h1, h2⟩
  · intro x hx b hb
    rcases List.mem_append.1 hx with hx | hx
    · rcases h'.new x hx b hb with h1 | h1
      · exact .inl (Nat.le_trans h.size h1)
      · exact (hF b h1).symm
    · exact hp.new x hx b hb
  · rw [List.filterMap_append]
    refine List.nodup_append.2 ⟨h'.nd, hp.nd, fun b hb c hc hbc => ?_⟩
    subst hbc
    obtain ⟨x, hx, hxb⟩ := List.mem_filterMap.1 hb
    obtain ⟨y, hy, hyb⟩ := List.mem_filterMap.1 hc
    rcases h'.new x hx b hxb with h1 | h1
    · have := hp.lt_ hy hyb; omega
    · exact hR y hy b hyb h1
theorem pick_all : ∀ (L : List Asn), pick L (List.range L.length) = L := by
  have key : ∀ (K : List Asn) (is : List Nat) (x : Asn), pick (x :: K) (is.map (· + 1)) = pick K is := by
    intro K is x
    induction is with
    | nil => rfl
    | cons i r ih =>
      simp only [List.map_cons, pick, List.getElem?_cons_succ]
      split <;> simp [ih]
  intro L
  induction L with
  | nil => rfl
  | cons x L ih =>
    rw [List.length_cons, List.range_succ_eq_map]
    simp only [pick, List.getElem?_cons_zero]
    rw [key, ih]
theorem Own.call0 (h : Own w0 F L w) (h' : Own w [] L' w') : Own w0 F (L' ++ L) w' := by
  have := h.call_ h' (List.range L.length) List.nodup_range (fun b hb => by cases hb) (fun _ _ _ _ hm => by cases hm)
  rwa [pick_all] at this
theorem set_nd : ∀ {L : List Asn} {i : Nat} {x y : Asn}, L[i]? = some x → y.blk = x.blk → (L.set i y).filterMap (·.blk) = L.filterMap (·.blk)
  | [], _, _, _, h, _ => by simp at h
  | z :: L, 0, x, y, h, hb => by
    simp only [List.getElem?_cons_zero, Option.some.injEq] at h
    subst h
    simp only [List.set_cons_zero]
    cases hz : z.blk with
    | none => rw [List.filterMap_cons_none (hb.trans hz), List.filterMap_cons_none hz]
    | some c => rw [List.filterMap_cons_some (hb.trans hz), List.filterMap_cons_some hz]
  | z :: L, i + 1, x, y, h, hb => by
    simp only [List.getElem?_cons_succ] at h
    simp only [List.set_cons_succ]
    cases hz : z.blk with
    | none => rw [List.filterMap_cons_none hz, List.filterMap_cons_none hz, set_nd h hb]
    | some c => rw [List.filterMap_cons_some hz, List.filterMap_cons_some hz, set_nd h hb]
/-- A write into one block of those that are known. -/
theorem Own.write_ (h : Own w0 F L w) {i : Nat} {x y : Asn} {g : Nat} (hi : L[i]? = some x) (hb : x.blk = some g) (hy : y.blk = x.blk) {o : Obj} (hos : w'.os = w.os) (htp : w'.tape = w.tape) (hout : w'.output = w.output)
    (hsz : w'.heap.size = w.heap.size) (hat : w'.heap[g]? = some o) (hok : y.ok o) (hother : ∀ b, b ≠ g → w'.heap[b]? = w.heap[b]?) : Own w0 F (L.set i y) w' := by
  have hx : x ∈ L := List.mem_of_getElem? hi
  refine ⟨hos.trans h.os, htp.trans h.tape, hout.trans h.output, by rw [hsz]; exact h.size, ?_, ?_, ?_, by rw [set_nd hi hy]; exact h.nd⟩
  · intro b hb' hF
    have hne : b ≠ g := fun e => by
      subst e
      rcases h.new x hx b hb with h1 | h1
      · omega
      · exact hF h1
    rw [hother b hne]
    exact h.keep b hb' hF
  · intro z hz b hzb
    obtain ⟨j, hj⟩ := List.mem_iff_getElem?.1 hz
    by_cases hij : i = j
    · subst hij
      have hlt : i < L.length := (List.getElem?_eq_some_iff.1 hi).1
      rw [List.getElem?_set_self hlt] at hj
      injection hj with hj
      subst hj
      rw [hy, hb] at hzb
      injection hzb with hzb
      subst hzb
      exact ⟨o, hat, hok⟩
    · rw [List.getElem?_set_ne hij] at hj
      obtain ⟨o', h1, h2⟩ := h.ok z (List.mem_of_getElem? hj) b hzb
      have hne : b ≠ g := fun e => by subst e; exact hij (nd_at h.nd hi hj hb hzb)
      exact ⟨o', (hother b hne).trans h1, h2⟩
  · intro z hz b hzb
    obtain ⟨j, hj⟩ := List.mem_iff_getElem?.1 hz
    by_cases hij : i = j
    · subst hij
      have hlt : i < L.length := (List.getElem?_eq_some_iff.1 hi).1
      rw [List.getElem?_set_self hlt] at hj
      injection hj with hj
      subst hj
      rw [hy] at hzb
      exact h.new x hx b hzb
    · rw [List.getElem?_set_ne hij] at hj
      exact h.new z (List.mem_of_getElem? hj) b hzb
theorem Own.set_ (h : Own w0 F L w) {i : Nat} {g : Nat} {t : TypeId} {cs : Array Value} (hi : L[i]? = some (bl g t cs)) (k : Nat) (v : Value) : Own w0 F (L.set i (bl g t (cs.setIfInBounds k v))) (w.setCell ⟨g, k, none⟩ v) := by
  obtain ⟨o, ho, rfl⟩ := h.ok _ (List.mem_of_getElem? hi) g rfl
  refine h.write_ hi rfl rfl rfl rfl rfl (by simp [World.setCell]) (o := .cells (cs.setIfInBounds k v) t (0, 0)) ?_ rfl (fun b hb => Below.heap_setCell w ⟨g, k, none⟩ v b hb)
  simp [World.setCell, Array.getElem?_modify, ho]
theorem Own.cell_ (h : Own w0 F L w) {i g : Nat} {t : TypeId} {cs : Array Value} (hi : L[i]? = some (bl g t cs)) (k : Nat) : w.cell? ⟨g, k, none⟩ = cs[k]? := by
  obtain ⟨o, ho, rfl⟩ := h.ok _ (List.mem_of_getElem? hi) g rfl
  exact cell_of_row w g k cs t (0, 0) ho
theorem Own.frozen_ (h : Own w0 F L w) {i g : Nat} {t : TypeId} {cs : Array Value} (hi : L[i]? = some (bl g t cs)) (k : Nat) : w.frozen? ⟨g, k, none⟩ = false := by
  obtain ⟨o, ho, rfl⟩ := h.ok _ (List.mem_of_getElem? hi) g rfl
  simp [World.frozen?, ho]
theorem Own.old_ (h : Own w0 F L w) {a : Addr} {v : Value} (hc : w0.cell? a = some v) (hF : a.block ∉ F) : w.cell? a = some v :=
  (World.cell?_of_block (h.keep a.block (World.block_lt_of_cell? w0 a hc) hF)).trans hc
theorem block_add (a : Addr) (n : Nat) : (a.add n).block = a.block := by unfold Addr.add; split <;> rfl
theorem add_add_ (a : Addr) (i j : Nat) : (a.add i).add j = a.add (i + j) := by
  unfold Addr.add
  by_cases hi : i = 0 <;> by_cases hj : j = 0 <;> simp [hi, hj, Nat.add_assoc]
theorem add_lit (g k j : Nat) : (⟨g, k, none⟩ : Addr).add j = ⟨g, k + j, none⟩ := by unfold Addr.add; split <;> simp_all
theorem Own.rd_old (h : Own w0 F L w) {A : Option Addr} {n size : Nat} {xs : List Value} (hr : Rd w0 A n size xs) (hF : ∀ a, A = some a → a.block ∉ F) : Rd w A n size xs :=
  ⟨hr.1, hr.2.1, fun hn => by
    obtain ⟨ad, e, hb, hc⟩ := hr.2.2 hn
    exact ⟨ad, e, Nat.lt_of_lt_of_le hb h.size, fun j u hu => (World.cell?_of_block (by rw [block_add]; exact h.keep ad.block hb (hF ad e))).trans (hc j u hu)⟩⟩
theorem Own.rd0 (h : Own w0 [] L w) {A : Option Addr} {n size : Nat} {xs : List Value} (hr : Rd w0 A n size xs) : Rd w A n size xs := h.rd_old hr (by simp)
theorem Own.rd_sl (h : Own w0 F L w) {i : Nat} {A : Option Addr} {n cap e size : Nat} {xs : List Value} (hi : L[i]? = some (sl A cap e size xs)) (hk : SlOk A n cap size xs) : Rd w A n size xs := by
  refine ⟨hk.1, Nat.le_trans hk.2.1 hk.2.2.1, fun hn => ?_⟩
  cases A with
  | none => have := (hk.2.2.2.1 rfl).1; omega
  | some a =>
    obtain ⟨g, rfl⟩ := hk.2.2.2.2 a rfl
    obtain ⟨o, ho, cur, rfl, hsz, hc⟩ := h.ok (sl (some ⟨g, 0, none⟩) cap e size xs) (List.mem_of_getElem? hi) g (by simp [sl])
    refine ⟨_, rfl, h.lt_ (List.mem_of_getElem? hi) (b := g) (by simp [sl]), fun j u hu => ?_⟩
    rw [add_lit, cell_of_row w g _ cur e (0, 0) ho, Nat.zero_add]
    exact hc j u hu
theorem Rd.nil_ (w : World) (A : Option Addr) (size : Nat) : Rd w A 0 size [] := ⟨by simp, Nat.zero_le _, fun h => absurd h (by omega)⟩
theorem Rd.cell_ {A : Option Addr} {n size : Nat} {xs : List Value} (hr : Rd w A n size xs) {k j : Nat} (hk : k < n) (hj : j < size) {ad : Addr} (hA : A = some ad) {u : Value} (hu : xs[k * size + j]? = some u) : w.cell? ((ad.add (k * size)).add j) = some u := by
  obtain ⟨ad', e, _, hc⟩ := hr.2.2 (by omega)
  rw [hA] at e
  injection e with e
  subst e
  rw [add_add_]
  exact hc _ _ hu
theorem Rd.some_ {A : Option Addr} {n size : Nat} {xs : List Value} (hr : Rd w A n size xs) (hn : 0 < n) : ∃ ad, A = some ad := by
  obtain ⟨ad, e, _⟩ := hr.2.2 hn
  exact ⟨ad, e⟩
theorem Rd.take_ {A : Option Addr} {n size : Nat} {xs : List Value} (hr : Rd w A n size xs) {k : Nat} (hk : k ≤ n) : Rd w A k size (xs.take (k * size)) := by
  have hl : k * size ≤ n * size := Nat.mul_le_mul_right _ hk
  refine ⟨by rw [List.length_take, hr.1]; omega, by have := hr.2.1; omega, fun hn => ?_⟩
  obtain ⟨ad, e, hb, hc⟩ := hr.2.2 (by omega)
  refine ⟨ad, e, hb, fun j u hu => hc j u ?_⟩
  have hlt : j < k * size := by
    rcases Nat.lt_or_ge j (k * size) with h | h
    · exact h
    · rw [List.getElem?_eq_none (by rw [List.length_take]; omega)] at hu; cases hu
  rwa [List.getElem?_take_of_lt hlt] at hu
theorem Rd.drop_ {A : Option Addr} {n size : Nat} {xs : List Value} (hr : Rd w A n size xs) {k cap : Nat} (hk : k ≤ n) (hc : n ≤ cap) :
    Rd w (if cap = k then A else A.map (·.add (k * size))) (n - k) size (xs.drop (k * size)) := by
  refine ⟨by rw [List.length_drop, hr.1, Nat.sub_mul], by have := hr.2.1; omega, fun hn => ?_⟩
  obtain ⟨ad, rfl, hb, hcell⟩ := hr.2.2 (by omega)
  rw [if_neg (by omega)]
  refine ⟨ad.add (k * size), rfl, by rw [block_add]; exact hb, fun j u hu => ?_⟩
  rw [add_add_]
  exact hcell _ u (by rw [← hu, List.getElem?_drop])
theorem Rd.cut_ {A : Option Addr} {n size : Nat} {xs : List Value} (hr : Rd w A n size xs) {k m cap : Nat} (hk : k ≤ m) (hm : m ≤ n) (hc : n ≤ cap) :
    Rd w (if cap = k then A else A.map (·.add (k * size))) (m - k) size ((xs.drop (k * size)).take ((m - k) * size)) := by
  have hl : (m - k) * size ≤ n * size - k * size := by
    rw [← Nat.sub_mul]
    exact Nat.mul_le_mul_right _ (by omega)
  refine ⟨by rw [List.length_take, List.length_drop, hr.1]; omega, by have := hr.2.1; omega, fun hn => ?_⟩
  obtain ⟨ad, rfl, hb, hcell⟩ := hr.2.2 (by omega)
  rw [if_neg (by omega)]
  refine ⟨ad.add (k * size), rfl, by rw [block_add]; exact hb, fun j u hu => ?_⟩
  rw [add_add_]
  refine hcell _ u ?_
  have hlt : j < (m - k) * size := by
    rcases Nat.lt_or_ge j ((m - k) * size) with h | h
    · exact h
    · rw [List.getElem?_eq_none (by rw [List.length_take]; omega)] at hu; cases hu
  rwa [List.getElem?_take_of_lt hlt, List.getElem?_drop] at hu
end

/-! ### walking -/
abbrev Cont := Act → World → Prop
def lk : List (Nat × Cont) → Nat → Option Cont
  | [], _ => none
  | (i, k) :: r, t => bif Nat.beq i t then some k else lk r t
def Qof (kn kr : Cont) (kx : List (Nat × Cont)) : Exit → Act → World → Prop
  | .normal, a, w => kn a w
  | .ret, a, w => kr a w
  | .exit id, a, w => match lk kx id with
    | some k => k a w
    | none => False
  | _, _, _ => False
/-! ### a drawn region, with one condition on the world that may be chosen anew behind an operation to which every other stands in an order -/
def waits (md : Region.Mode) (ops : Array Oper) (j k : Nat) : Bool := match ops[j]? with
  | some o => o.after.any fun e => Region.binds md e && e.on == k
  | none => false
def exempt (md : Region.Mode) (ops : Array Oper) (j : Nat) : Bool := (List.range ops.size).all fun k => k == j || waits md ops j k || waits md ops k j
def wpAnyZ (P : Program) (md : Region.Mode) (ops : Array Oper) (Q : Exit → Act → World → Prop) : Nat → (World → Prop) → Array Bool → Act → World → Prop
  | 0, _, listed, a, w => Region.ready md ops listed = [] ∧ Q .normal a w
  | fuel + 1, S, listed, a, w => (Region.ready md ops listed = [] → Q .normal a w) ∧
    ∀ i ∈ Region.ready md ops listed, wpOp P ops Q i (fun a' w' => (S w' ∧ wpAnyZ P md ops Q fuel S (listed.setIfInBounds i true) a' w') ∨ (exempt md ops i = true ∧ ∃ S', wpAnyZ P md ops Q fuel S' (listed.setIfInBounds i true) a' w')) a w
section
variable {P : Program} {md : Region.Mode} {ops : Array Oper} {Q : Exit → Act → World → Prop}
theorem wpAny_of_Z : ∀ (fuel : Nat) (S : World → Prop) (listed : Array Bool) (a : Act) (w : World), wpAnyZ P md ops Q fuel S listed a w → wpAny P md ops Q fuel listed a w
  | 0, _, _, _, _, h => h
  | fuel + 1, S, _, _, _, h => ⟨h.1, fun i hi => wpOp_mono (fun a' w' h' => by
      rcases h' with h' | ⟨_, S', h'⟩
      · exact wpAny_of_Z fuel S _ a' w' h'.2
      · exact wpAny_of_Z fuel S' _ a' w' h') (h.2 i hi)⟩
theorem waits_spec {j k : Nat} {o : Oper} (hj : ops[j]? = some o) (h : waits md ops j k = true) : ∃ e ∈ o.after, Region.binds md e = true ∧ e.on = k := by
  unfold waits at h
  simp only [hj, Array.any_eq_true', Bool.and_eq_true, beq_iff_eq] at h
  exact h
theorem wpAnyZ_first {i : Nat} {oi : Oper} {v : Value} {S : World → Prop} (hi : ops[i]? = some oi) (hsel : ∀ (j : Nat) (o : Oper) cs b, ops[j]? = some o → o.op ≠ .select cs b)
    (hQ : ∀ c a w, Q (.panic c) (a.put oi.dst v) w → Q (.panic c) a w) : ∀ (fuel : Nat) (listed : Array Bool) (a : Act) (w : World),
      (∀ j oj, ops[j]? = some oj → j ≠ i → listed.getD j true = false → (∀ e ∈ oj.after, Region.binds md e = true → e.on ≠ i) → oi.apart ops oj = true) →
      i ∈ Region.ready md ops listed → YieldsIf P ops S oi v a → S w →
      wpAnyZ P md ops Q fuel S (listed.setIfInBounds i true) (a.put oi.dst v) w → wpAnyZ P md ops Q (fuel + 1) S listed a w
  | 0, listed, a, w, _, hr, hy, hS, H => by
    refine ⟨fun h => (by rw [h] at hr; cases hr), fun j hj => ?_⟩
    by_cases hji : j = i
    · subst hji
      exact hy.wpOp hi hS (.inl ⟨hS, H⟩)
    · have h1 := ready_mono hj hji
      rw [H.1] at h1
      cases h1
  | fuel + 1, listed, a, w, hfree, hr, hy, hS, H => by
    refine ⟨fun h => (by rw [h] at hr; cases hr), fun j hj => ?_⟩
    by_cases hji : j = i
    · subst hji
      exact hy.wpOp hi hS (.inl ⟨hS, H⟩)
    have h1 := H.2 j (ready_mono hj hji)
    obtain ⟨hjun, oj, hoj, hall⟩ := mem_ready.1 hj
    obtain ⟨hiun, oi', hoi', halli⟩ := mem_ready.1 hr
    rw [hi] at hoi'
    injection hoi' with hoi'
    subst hoi'
    have un : ∀ k, listed.getD k true = false → listed.getD k false = true → False := by
      intro k h0 h1
      rcases Nat.lt_or_ge k listed.size with h' | h'
      · simp [h'] at h0 h1; rw [h0] at h1; cases h1
      · simp [Array.getElem?_eq_none h'] at h1
    have hnot : ∀ e ∈ oj.after, Region.binds md e = true → e.on ≠ i := fun e he hb heq => un i hiun (by rw [← heq]; exact hall e he hb)
    have hnot' : ∀ e ∈ oi.after, Region.binds md e = true → e.on ≠ j := fun e he hb heq => un j hjun (by rw [← heq]; exact halli e he hb)
    have h2 := wpOp_putIf hoj (hfree j oj hoj hji hjun hnot) (fun cs b => hsel i oi cs b hi) (fun cs b => hsel j oj cs b hoj) hQ hy h1
    have hfree' : ∀ k ok, ops[k]? = some ok → k ≠ i → (listed.setIfInBounds j true).getD k true = false → (∀ e ∈ ok.after, Region.binds md e = true → e.on ≠ i) → oi.apart ops ok = true := by
      intro k ok hk hki hun hno
      refine hfree k ok hk hki ?_ hno
      by_cases hjk : j = k
      · subst hjk; exact hjun
      · rwa [getD_set_ne true hjk] at hun
    refine wpOp_mono (fun a' w' h3 => ?_) h2
    rcases h3.2 with h4 | ⟨hex, _⟩
    · refine .inl ⟨h4.1, wpAnyZ_first hi hsel hQ fuel _ a' w' hfree' (ready_mono hr (Ne.symm hji)) h3.1 h4.1 ?_⟩
      rw [Array.setIfInBounds_comm _ _ hji]
      exact h4.2
    · exfalso
      have hlt : i < ops.size := (Array.getElem?_eq_some_iff.1 hi).1
      have h5 := (List.all_eq_true.1 hex) i (List.mem_range.2 hlt)
      simp only [Bool.or_eq_true, beq_iff_eq] at h5
      rcases h5 with (h5 | h5) | h5
      · exact hji h5.symm
      · obtain ⟨e, he, hb, ho⟩ := waits_spec hoj h5
        exact hnot e he hb ho
      · obtain ⟨e, he, hb, ho⟩ := waits_spec hi h5
        exact hnot' e he hb ho
theorem wpAnyZ_take {i : Nat} {oi : Oper} {v : Value} {S : World → Prop} {fuel : Nat} {listed : Array Bool} {a : Act} {w : World} (hi : ops[i]? = some oi)
    (hs : Region.noSelect ops = true) (hf : Region.free md ops listed i = true) (hr : (Region.ready md ops listed).contains i = true)
    (hQ : ∀ c a w, Q (.panic c) (a.put oi.dst v) w → Q (.panic c) a w) (hy : YieldsIf P ops S oi v a) (hS : S w)
    (h : wpAnyZ P md ops Q fuel S (listed.setIfInBounds i true) (a.put oi.dst v) w) : wpAnyZ P md ops Q (fuel + 1) S listed a w :=
  wpAnyZ_first hi (Region.noSelect_spec hs) hQ fuel listed a w (Region.free_spec hi hf) (by simpa using hr) hy hS h
theorem wpAnyZ_all {rs : List Nat} {S : World → Prop} {fuel : Nat} {listed : Array Bool} {a : Act} {w : World} (hr : Region.ready md ops listed = rs) (hne : rs ≠ [])
    (h : ∀ i ∈ rs, wpOp P ops Q i (fun a' w' => (S w' ∧ wpAnyZ P md ops Q fuel S (listed.setIfInBounds i true) a' w') ∨ (exempt md ops i = true ∧ ∃ S', wpAnyZ P md ops Q fuel S' (listed.setIfInBounds i true) a' w')) a w) : wpAnyZ P md ops Q (fuel + 1) S listed a w :=
  ⟨fun h0 => absurd (hr ▸ h0) hne, hr ▸ h⟩
theorem wpAnyZ_done {S : World → Prop} {listed : Array Bool} {a : Act} {w : World} (hr : Region.ready md ops listed = []) (h : Q .normal a w) : ∀ fuel, wpAnyZ P md ops Q fuel S listed a w
  | 0 => ⟨hr, h⟩
  | _ + 1 => ⟨fun _ => h, by rw [hr]; simp⟩
theorem wp_region_Z {S : World → Prop} {id : Nat} {a : Act} {w : World} (hm : P.follows .mixedOrders = true)
    (h : wpAnyZ P .any ops Q ops.size S (Array.replicate ops.size false) a { w with drawn := w.drawn + 1 }) : (Code.region id ops true).wp P Q a w :=
  wp_region_any hm (wpAny_of_Z _ _ _ _ _ h)
end
def At (n : Nat) (w0 : World) (F : List Nat) (N : Cont) (e : Env) (L : List Asn) : Prop := ∀ a w, St n e a → Own w0 F L w → N a w
def Cw (P : Program) (c : Code) (Q : Exit → Act → World → Prop) : Cont := c.wp P Q
def Ow (P : Program) (ops : Array Oper) (Q : Exit → Act → World → Prop) (l : List Oper) : Cont := wpList P ops Q l
def Pw (P : Program) (o : Oper) (N : Cont) (Q : Exit → Act → World → Prop) : Cont := fun a w => o.wp P a w N Q
def Aw (P : Program) (ops : Array Oper) (Q : Exit → Act → World → Prop) (S : World → Prop) (fuel : Nat) (listed : Array Bool) : Cont := wpAnyZ P .any ops Q fuel S listed
def Iw (P : Program) (ops : Array Oper) (Q : Exit → Act → World → Prop) (i : Nat) (K : Cont) : Cont := wpOp P ops Q i K
def pre (m k : Nat) : Array Bool := ((List.range m).map fun i => Nat.blt i k).toArray
/-- A region that draws its order, walked in the order of its text: k operations are done, 'rest' is left. -/
def textOk (ops : Array Oper) : Bool :=
  Region.noSelect ops && (List.range ops.size).all fun k => Region.free .any ops (pre ops.size k) k && (Region.ready .any ops (pre ops.size k)).contains k
def Tw (P : Program) (ops : Array Oper) (Q : Exit → Act → World → Prop) (S : World → Prop) (k : Nat) (rest : List Oper) : Cont := fun a w =>
  textOk ops = true → ops.toList.drop k = rest → wpAnyZ P .any ops Q rest.length S (pre ops.size k) a w
def Bw (ops : Array Oper) (i : Nat) (S : World → Prop) (N : (World → Prop) → Cont) : Cont := fun a w => (S w ∧ N S a w) ∨ (exempt .any ops i = true ∧ ∃ S', N S' a w)
def Rw (n : Nat) (w0 : World) (F : List Nat) {σ : Type} (mk : σ → Env) (hp : σ → List Asn) (I : σ → Prop) : Cont := fun a w => ∃ s, St n (mk s) a ∧ Own w0 F (hp s) w ∧ I s
def Rig (P : Program) (n : Nat) (S : World → Prop) (e : Env) (o : Oper) (v : Value) : Prop := ∀ a w, St n e a → S w → (execOp a.eval o).run P w = .ok (.value v) w
def guardOn (ops : Array Oper) (e : Env) : Option (Nat × Bool) → Bool
  | none => true
  | some (j, want) => match (ops[j]?).bind (·.dst) with
    | some d => match get e d with
      | some (.bool b) => b == want
      | _ => false
    | none => false
def guardOff (ops : Array Oper) (e : Env) : Option (Nat × Bool) → Bool
  | none => false
  | some (j, want) => match (ops[j]?).bind (·.dst) with
    | some d => match get e d with
      | some (.bool b) => b != want
      | some (.tuple _) => true
      | _ => false
    | none => false

section
variable {P : Program} {n : Nat} {w0 : World} {F : List Nat} {e : Env} {L : List Asn} {ops : Array Oper} {Q : Exit → Act → World → Prop} {N : Cont} {rest : List Oper} {kn kr : Cont} {kx : List (Nat × Cont)}
theorem guardOn_spec {a : Act} (h : St n e a) {o : Oper} (hg : guardOn ops e o.guard = true) : Region.wanted o (yielded ops a.tmps) = true := by
  unfold Region.wanted
  unfold guardOn at hg
  split at hg
  · rename_i h0; rw [h0]
  · rename_i j want h0
    rw [h0]
    split at hg
    · rename_i d hd
      split at hg
      · rename_i b hb
        have h1 : a.tmps[d]? = some (.bool b) := h.agr d _ hb
        have : b = want := by simpa using hg
        subst this
        simp [yielded, hd, h1]
      · cases hg
    · cases hg
theorem guardOff_spec {a : Act} (h : St n e a) {o : Oper} (hg : guardOff ops e o.guard = true) : Region.wanted o (yielded ops a.tmps) = false := by
  unfold Region.wanted
  unfold guardOff at hg
  split at hg
  · cases hg
  · rename_i j want h0
    rw [h0]
    split at hg
    · rename_i d hd
      split at hg
      · rename_i b hb
        have h1 : a.tmps[d]? = some (.bool b) := h.agr d _ hb
        simp only [yielded, hd, Option.bind_some, h1]
        revert hg
        cases b <;> cases want <;> decide
      · rename_i l hb
        have h1 : a.tmps[d]? = some (.tuple l) := h.agr d _ hb
        simp [yielded, hd, h1]
      · cases hg
    · cases hg

/-! text order -/
theorem x_op {o : Oper} (hg : guardOn ops e o.guard = true) (h : At n w0 F (Pw P o (Ow P ops Q rest) Q) e L) : At n w0 F (Ow P ops Q (o :: rest)) e L := by
  intro a w hs ho
  unfold Ow wpList
  rw [if_pos (guardOn_spec hs hg)]
  exact .inl (h a w hs ho)
theorem x_off {d : Nat} {op : Op} {ty : TypeId} {pos : String} {af : Array Edge} {g : Option (Nat × Bool)} (hg : guardOff ops e g = true) (hd : Nat.blt d n = true) (h : At n w0 F (Ow P ops Q rest) ((d, undef) :: e) L) :
    At n w0 F (Ow P ops Q (⟨some d, op, ty, pos, af, g⟩ :: rest)) e L := by
  intro a w hs ho
  unfold Ow wpList
  rw [if_neg (by rw [guardOff_spec hs (o := ⟨some d, op, ty, pos, af, g⟩) hg]; simp)]
  exact h _ w (hs.put_ hd undef) ho
theorem x_off0 {op : Op} {ty : TypeId} {pos : String} {af : Array Edge} {g : Option (Nat × Bool)} (hg : guardOff ops e g = true) (h : At n w0 F (Ow P ops Q rest) e L) :
    At n w0 F (Ow P ops Q (⟨none, op, ty, pos, af, g⟩ :: rest)) e L := by
  intro a w hs ho
  unfold Ow wpList
  rw [if_neg (by rw [guardOff_spec hs (o := ⟨none, op, ty, pos, af, g⟩) hg]; simp)]
  exact h _ w hs ho
theorem x_nil (h : At n w0 F kn e L) : At n w0 F (Ow P ops (Qof kn kr kx) []) e L := h
/-- An operation that yields a value and leaves the world. -/
theorem x_val {d : Nat} {op : Op} {ty : TypeId} {pos : String} {af : Array Edge} {g : Option (Nat × Bool)} {v : Value} (hr : Rig P n (Own w0 F L) e ⟨some d, op, ty, pos, af, g⟩ v) (hd : Nat.blt d n = true) (h : At n w0 F N ((d, v) :: e) L) :
    At n w0 F (Pw P ⟨some d, op, ty, pos, af, g⟩ N Q) e L := by
  intro a w hs ho
  simp only [Pw, Oper.wp, hr a w hs ho, Oper.upon]
  exact h _ w (hs.put_ hd v) ho

/-! any order -/
theorem x_draw {id : Nat} {ops : List Oper} (hm : P.follows .mixedOrders = true) (h : At n w0 F (Aw P ops.toArray (Qof kn kr kx) (Own w0 F L) ops.length (Array.replicate ops.length false)) e L) :
    At n w0 F (Cw P (Code.region id ops.toArray true) (Qof kn kr kx)) e L := by
  intro a w hs ho
  refine wp_region_Z (S := Own w0 F L) hm ?_
  simp only [List.size_toArray]
  exact h a _ hs (ho.draw_ _)
theorem pre_set (m k : Nat) : (pre m k).setIfInBounds k true = pre m (k + 1) := by
  unfold pre
  apply Array.ext'
  simp only [Array.toList_setIfInBounds]
  apply List.ext_getElem?
  intro i
  rw [List.getElem?_set]
  simp only [List.getElem?_map, List.getElem?_range']
  by_cases hi : i < m
  · by_cases hk : k = i
    · subst hk
      simp [hi, Nat.blt]
    · have h1 : Nat.blt i k = Nat.blt i (k + 1) := by
        rw [Bool.eq_iff_iff]
        simp
        omega
      simp [hk, hi, h1]
  · simp [hi]
    omega
theorem x_textS {id : Nat} {ops : List Oper} (L0 : List Asn) (hm : (P.follows .mixedOrders && textOk ops.toArray) = true) (hS : ∀ w, Own w0 F L w → Own w0 F L0 w) (h : At n w0 F (Tw P ops.toArray (Qof kn kr kx) (Own w0 F L0) 0 ops) e L) :
    At n w0 F (Cw P (Code.region id ops.toArray true) (Qof kn kr kx)) e L := by
  intro a w hs ho
  simp only [Bool.and_eq_true] at hm
  refine wp_region_Z (S := Own w0 F L0) hm.1 ?_
  have h0 : Array.replicate ops.toArray.size false = pre ops.toArray.size 0 := by
    unfold pre
    apply Array.ext'
    simp
    apply List.ext_getElem?
    intro i
    by_cases hi : i < ops.length
    · have : Nat.blt i 0 = false := by rw [Bool.eq_false_iff]; simp
      simp [hi, this]
    · simp [hi]
  rw [h0]
  simp only [List.size_toArray]
  have := h a _ hs (ho.draw_ (w.drawn + 1)) hm.2 (by simp)
  simpa using this
theorem x_text {id : Nat} {ops : List Oper} (hm : (P.follows .mixedOrders && textOk ops.toArray) = true) (h : At n w0 F (Tw P ops.toArray (Qof kn kr kx) (Own w0 F L) 0 ops) e L) :
    At n w0 F (Cw P (Code.region id ops.toArray true) (Qof kn kr kx)) e L := x_textS L hm (fun _ h => h) h
theorem tw_facts {k : Nat} {o : Oper} {rest : List Oper} (hok : textOk ops = true) (hd : ops.toList.drop k = o :: rest) :
    ops[k]? = some o ∧ Region.noSelect ops = true ∧ Region.free .any ops (pre ops.size k) k = true ∧ (Region.ready .any ops (pre ops.size k)).contains k = true ∧ ops.toList.drop (k + 1) = rest := by
  have hk : k < ops.toList.length := by
    rcases Nat.lt_or_ge k ops.toList.length with h | h
    · exact h
    · rw [List.drop_eq_nil_of_le h] at hd; cases hd
  rw [List.drop_eq_getElem_cons hk] at hd
  injection hd with h1 h2
  unfold textOk at hok
  simp only [Bool.and_eq_true, List.all_eq_true, List.mem_range] at hok
  have := hok.2 k (by simpa using hk)
  refine ⟨?_, hok.1, this.1, this.2, h2⟩
  rw [← h1]
  simp
theorem x_tk {S : World → Prop} {k : Nat} {rest : List Oper} {d : Nat} {op : Op} {ty : TypeId} {pos : String} {af : Array Edge} {g : Option (Nat × Bool)} {v : Value} (hg : guardOn ops e g = true) (hr : Rig P n S e ⟨some d, op, ty, pos, af, g⟩ v) (hd : Nat.blt d n = true)
    (hS : ∀ w, Own w0 F L w → S w) (h : At n w0 F (Tw P ops (Qof kn kr kx) S (k + 1) rest) ((d, v) :: e) L) : At n w0 F (Tw P ops (Qof kn kr kx) S k (⟨some d, op, ty, pos, af, g⟩ :: rest)) e L := by
  intro a w hs ho hok hdr
  obtain ⟨h1, h2, h3, h4, h5⟩ := tw_facts hok hdr
  refine wpAnyZ_take (oi := ⟨some d, op, ty, pos, af, g⟩) (v := v) h1 h2 h3 h4 (fun _ _ _ h => h) (.inl ⟨guardOn_spec hs hg, fun w hw => hr a w hs hw⟩) (hS w ho) ?_
  rw [pre_set]
  exact h _ w (hs.put_ hd v) ho hok h5
theorem x_tkoff {S : World → Prop} {k : Nat} {rest : List Oper} {d : Nat} {op : Op} {ty : TypeId} {pos : String} {af : Array Edge} {g : Option (Nat × Bool)} (hg : guardOff ops e g = true) (hd : Nat.blt d n = true)
    (hS : ∀ w, Own w0 F L w → S w) (h : At n w0 F (Tw P ops (Qof kn kr kx) S (k + 1) rest) ((d, undef) :: e) L) : At n w0 F (Tw P ops (Qof kn kr kx) S k (⟨some d, op, ty, pos, af, g⟩ :: rest)) e L := by
  intro a w hs ho hok hdr
  obtain ⟨h1, h2, h3, h4, h5⟩ := tw_facts hok hdr
  refine wpAnyZ_take (oi := ⟨some d, op, ty, pos, af, g⟩) (v := undef) h1 h2 h3 h4 (fun _ _ _ h => h) (.inr ⟨guardOff_spec hs (o := ⟨some d, op, ty, pos, af, g⟩) hg, rfl⟩) (hS w ho) ?_
  rw [pre_set]
  exact h _ w (hs.put_ hd undef) ho hok h5
theorem x_tany {S : World → Prop} {k : Nat} {rest : List Oper} (h : At n w0 F (Aw P ops Q S rest.length (pre ops.size k)) e L) : At n w0 F (Tw P ops Q S k rest) e L := fun a w hs ho _ _ => h a w hs ho
theorem x_tend {S : World → Prop} {k : Nat} (h : At n w0 F kn e L) : At n w0 F (Tw P ops (Qof kn kr kx) S k []) e L := by
  intro a w hs ho hok hdr
  refine wpAnyZ_done ?_ (h a w hs ho) _
  have hk : ops.size ≤ k := by
    have := congrArg List.length hdr
    simp at this
    omega
  unfold Region.ready
  rw [List.filter_eq_nil_iff]
  intro i hi
  have hlt : i < ops.size := by simpa using hi
  have : (pre ops.size k).getD i true = true := by
    unfold pre
    simp [hlt]
    omega
  simp [this]
/-- The next one in any order may be this one: it yields what it yields wherever it comes. -/
theorem x_take (i : Nat) {L0 : List Asn} {fuel : Nat} {listed : Array Bool} {d : Nat} {op : Op} {ty : TypeId} {pos : String} {af : Array Edge} {g : Option (Nat × Bool)} {v : Value} (hi : ops[i]? = some ⟨some d, op, ty, pos, af, g⟩)
    (hst : (Region.noSelect ops && Region.free .any ops listed i && (Region.ready .any ops listed).contains i) = true) (hg : guardOn ops e g = true) (hr : Rig P n (Own w0 F L0) e ⟨some d, op, ty, pos, af, g⟩ v) (hd : Nat.blt d n = true)
    (hS : ∀ w, Own w0 F L w → Own w0 F L0 w)
    (h : At n w0 F (Aw P ops (Qof kn kr kx) (Own w0 F L0) fuel (listed.setIfInBounds i true)) ((d, v) :: e) L) :
    At n w0 F (Aw P ops (Qof kn kr kx) (Own w0 F L0) (fuel + 1) listed) e L := by
  intro a w hs ho
  simp only [Bool.and_eq_true] at hst
  exact wpAnyZ_take (oi := ⟨some d, op, ty, pos, af, g⟩) (v := v) hi hst.1.1 hst.1.2 hst.2 (fun _ _ _ h => h) (.inl ⟨guardOn_spec hs hg, fun w hw => hr a w hs hw⟩) (hS w ho) (h _ w (hs.put_ hd v) ho)
theorem x_takeoff (i : Nat) {L0 : List Asn} {fuel : Nat} {listed : Array Bool} {d : Nat} {op : Op} {ty : TypeId} {pos : String} {af : Array Edge} {g : Option (Nat × Bool)} (hi : ops[i]? = some ⟨some d, op, ty, pos, af, g⟩)
    (hst : (Region.noSelect ops && Region.free .any ops listed i && (Region.ready .any ops listed).contains i) = true) (hg : guardOff ops e g = true) (hd : Nat.blt d n = true)
    (hS : ∀ w, Own w0 F L w → Own w0 F L0 w)
    (h : At n w0 F (Aw P ops (Qof kn kr kx) (Own w0 F L0) fuel (listed.setIfInBounds i true)) ((d, undef) :: e) L) :
    At n w0 F (Aw P ops (Qof kn kr kx) (Own w0 F L0) (fuel + 1) listed) e L := by
  intro a w hs ho
  simp only [Bool.and_eq_true] at hst
  exact wpAnyZ_take (oi := ⟨some d, op, ty, pos, af, g⟩) (v := undef) hi hst.1.1 hst.1.2 hst.2 (fun _ _ _ h => h) (.inr ⟨guardOff_spec hs (o := ⟨some d, op, ty, pos, af, g⟩) hg, rfl⟩) (hS w ho) (h _ w (hs.put_ hd undef) ho)
/-- Each of those that may come up now. -/
def AllOf (P : Program) (n : Nat) (w0 : World) (F : List Nat) (ops : Array Oper) (Q : Exit → Act → World → Prop) (S : World → Prop) (fuel : Nat) (listed : Array Bool) (e : Env) (L : List Asn) : List Nat → Prop
  | [] => True
  | i :: r => At n w0 F (Iw P ops Q i (Bw ops i S (fun S => Aw P ops Q S fuel (listed.setIfInBounds i true)))) e L ∧ AllOf P n w0 F ops Q S fuel listed e L r
theorem x_all {L0 : List Asn} {fuel : Nat} {listed : Array Bool} (rs : List Nat) (hr : (Region.ready .any ops listed == rs && !rs.isEmpty) = true)
    (h : AllOf P n w0 F ops (Qof kn kr kx) (Own w0 F L0) fuel listed e L rs) : At n w0 F (Aw P ops (Qof kn kr kx) (Own w0 F L0) (fuel + 1) listed) e L := by
  intro a w hs ho
  simp only [Bool.and_eq_true, beq_iff_eq, Bool.not_eq_true'] at hr
  refine wpAnyZ_all hr.1 (by intro e; rw [e] at hr; simp at hr) ?_
  have key : ∀ l : List Nat, AllOf P n w0 F ops (Qof kn kr kx) (Own w0 F L0) fuel listed e L l → ∀ i ∈ l, wpOp P ops (Qof kn kr kx) i (fun a' w' => (Own w0 F L0 w' ∧ Aw P ops (Qof kn kr kx) (Own w0 F L0) fuel (listed.setIfInBounds i true) a' w') ∨ (exempt .any ops i = true ∧ ∃ S', Aw P ops (Qof kn kr kx) S' fuel (listed.setIfInBounds i true) a' w')) a w := by
    intro l
    induction l with
    | nil => intro _ i hi; cases hi
    | cons j r ih =>
      intro hl i hi
      rcases List.mem_cons.1 hi with rfl | hi
      · exact hl.1 a w hs ho
      · exact ih hl.2 i hi
  exact key rs h
theorem x_do {i : Nat} {K : Cont} {o : Oper} (hi : ops[i]? = some o) (hg : guardOn ops e o.guard = true) (h : At n w0 F (Pw P o K Q) e L) : At n w0 F (Iw P ops Q i K) e L := by
  intro a w hs ho
  unfold Iw wpOp
  simp only [hi]
  rw [if_pos (guardOn_spec hs hg)]
  exact .inl (h a w hs ho)
theorem x_and {S : World → Prop} {N : (World → Prop) → Cont} {i : Nat} (hS : ∀ w, Own w0 F L w → S w) (h : At n w0 F (N S) e L) : At n w0 F (Bw ops i S N) e L := fun a w hs ho => .inl ⟨hS w ho, h a w hs ho⟩
/-- Behind an operation to which every other stands in an order: the condition is chosen anew. -/
theorem x_new {S : World → Prop} {N : (World → Prop) → Cont} {i : Nat} (L0 : List Asn) (hx : exempt .any ops i = true) (h : At n w0 F (N (Own w0 F L0)) e L) : At n w0 F (Bw ops i S N) e L := fun a w hs ho => .inr ⟨hx, _, h a w hs ho⟩
theorem x_done {L0 : List Asn} {fuel : Nat} {listed : Array Bool} (hr : (Region.ready .any ops listed).isEmpty = true) (h : At n w0 F kn e L) : At n w0 F (Aw P ops (Qof kn kr kx) (Own w0 F L0) fuel listed) e L := by
  intro a w hs ho
  exact wpAnyZ_done (by simpa using hr) (h a w hs ho) fuel

/-! code -/
theorem x_region {id : Nat} {l : List Oper} (h : At n w0 F (Ow P l.toArray (Qof kn kr kx) l) e L) : At n w0 F (Cw P (Code.region id l.toArray false) (Qof kn kr kx)) e L :=
  fun a w hs ho => wp_region_lit (h a w hs ho)
theorem x_seq {x y : Code} (h : At n w0 F (Cw P x (Qof (Cw P y (Qof kn kr kx)) kr kx)) e L) : At n w0 F (Cw P (Code.seq x y) (Qof kn kr kx)) e L :=
  fun a w hs ho => wp_seq (wp_mono (h a w hs ho) (fun ex a w q => by cases ex <;> exact q))
theorem x_skip (h : At n w0 F kn e L) : At n w0 F (Cw P Code.skip (Qof kn kr kx)) e L := fun a w hs ho => wp_skip (h a w hs ho)
theorem x_ret (h : At n w0 F kr e L) : At n w0 F (Cw P Code.ret (Qof kn kr kx)) e L := fun a w hs ho => wp_ret (h a w hs ho)
theorem x_exit {id : Nat} {k : Cont} (hk : lk kx id = some k) (h : At n w0 F k e L) : At n w0 F (Cw P (Code.exit id) (Qof kn kr kx)) e L :=
  fun a w hs ho => wp_exit (by simp only [Qof, hk]; exact h a w hs ho)
theorem x_block {id : Nat} {c : Code} (h : At n w0 F (Cw P c (Qof kn kr ((id, kn) :: kx))) e L) : At n w0 F (Cw P (Code.block id c) (Qof kn kr kx)) e L := by
  intro a w hs ho
  refine wp_block (wp_mono (h a w hs ho) (fun ex a w q => ?_))
  cases ex <;> try exact q
  rename_i id'
  simp only [Exit.inBlock]
  simp only [Qof, lk] at q ⊢
  by_cases hid : id' = id
  · subst hid
    have hb : Nat.beq id' id' = true := Nat.beq_refl id'
    rw [hb] at q
    simpa using q
  · rw [if_neg hid]
    have hb : Nat.beq id id' = false := by
      cases hh : Nat.beq id id' with
      | false => rfl
      | true => exact absurd (Nat.eq_of_beq_eq_true hh).symm hid
    rw [hb] at q
    exact q
theorem x_true {c : Operand} {x y : Code} (hc : ev e c = some (.bool true)) (h : At n w0 F (Cw P x Q) e L) : At n w0 F (Cw P (Code.cond c x y) Q) e L :=
  fun a w hs ho => wp_cond_true (hs.ev_ hc) (h a w hs ho)
theorem x_false {c : Operand} {x y : Code} (hc : ev e c = some (.bool false)) (h : At n w0 F (Cw P y Q) e L) : At n w0 F (Cw P (Code.cond c x y) Q) e L :=
  fun a w hs ho => wp_cond_false (hs.ev_ hc) (h a w hs ho)
theorem x_cond {c : Operand} {x y : Code} {b : Bool} (hc : ev e c = some (.bool b)) (ht : b = true → At n w0 F (Cw P x Q) e L) (hf : b = false → At n w0 F (Cw P y Q) e L) : At n w0 F (Cw P (Code.cond c x y) Q) e L := by
  cases b with
  | true => exact x_true hc (ht rfl)
  | false => exact x_false hc (hf rfl)
/-- A loop: at each round's head the frame is 'mk s', the heap 'hp s'. -/
theorem x_loop {c : Code} {σ : Type} (mk : σ → Env) (hp : σ → List Asn) (I : σ → Prop) (μ : σ → Nat) (s0 : σ) (h0 : Sub (mk s0) e) (hL : ∀ w, Own w0 F L w → Own w0 F (hp s0) w) (hI : I s0)
    (round : ∀ s, I s → At n w0 F (Cw P c (Qof (Rw n w0 F mk hp (fun s' => I s' ∧ μ s' < μ s)) kr kx)) (mk s) (hp s)) : At n w0 F (Cw P (Code.loop c) (Qof kn kr kx)) e L := by
  intro a w hs ho
  refine wp_loop_ghost (fun m a w => ∃ s, μ s = m ∧ I s ∧ St n (mk s) a ∧ Own w0 F (hp s) w) (μ s0) ⟨s0, rfl, hI, hs.sub h0, hL w ho⟩ ?_
  rintro m a w ⟨s, rfl, hIs, hs, ho⟩
  refine wp_mono (round s hIs a w hs ho) (fun ex a' w' q => ?_)
  cases ex <;> try exact q
  obtain ⟨s', h1, h2, h3, h4⟩ := (show Rw n w0 F mk hp (fun s' => I s' ∧ μ s' < μ s) a' w' from q)
  exact ⟨μ s', h4, s', rfl, h3, h1, h2⟩
/-- The round's end. -/
theorem x_again {σ : Type} {mk : σ → Env} {hp : σ → List Asn} {I : σ → Prop} {μ : σ → Nat} {s : σ} (s' : σ) (h0 : Sub (mk s') e) (hL : ∀ w, Own w0 F L w → Own w0 F (hp s') w) (hI : I s') (hμ : μ s' < μ s) :
    At n w0 F (Rw n w0 F mk hp (fun s' => I s' ∧ μ s' < μ s)) e L :=
  fun a w hs ho => ⟨s', hs.sub h0, hL w ho, hI, hμ⟩
/-- A cut: behind x only this is known. -/
theorem x_cut {x y : Code} {σ : Type} (mk : σ → Env) (hp : σ → List Asn) (I : σ → Prop) (h : At n w0 F (Cw P x (Qof (Rw n w0 F mk hp I) kr kx)) e L)
    (hy : ∀ s, I s → At n w0 F (Cw P y (Qof kn kr kx)) (mk s) (hp s)) : At n w0 F (Cw P (Code.seq x y) (Qof kn kr kx)) e L :=
  fun a w hs ho => wp_seq (wp_mono (h a w hs ho) (fun ex a w q => by
    cases ex <;> try exact q
    obtain ⟨s, h1, h2, h3⟩ := (show Rw n w0 F mk hp I a w from q)
    exact hy s h3 a w h1 h2))
theorem x_there {σ : Type} {mk : σ → Env} {hp : σ → List Asn} {I : σ → Prop} (s : σ) (h0 : Sub (mk s) e) (hL : ∀ w, Own w0 F L w → Own w0 F (hp s) w) (hI : I s) :
    At n w0 F (Rw n w0 F mk hp I) e L := fun a w hs ho => ⟨s, hs.sub h0, hL w ho, hI⟩
/-- A Bool parts the ways. -/
theorem x_bool {N : Cont} {d : Nat} {b : Bool} (ht : b = true → At n w0 F N ((d, .bool true) :: e) L) (hf : b = false → At n w0 F N ((d, .bool false) :: e) L) : At n w0 F N ((d, .bool b) :: e) L := by
  cases b with
  | true => exact ht rfl
  | false => exact hf rfl
theorem x_dec {N : Cont} {d : Nat} {p : Prop} [Decidable p] (ht : p → At n w0 F N ((d, .bool true) :: e) L) (hf : ¬ p → At n w0 F N ((d, .bool false) :: e) L) : At n w0 F N ((d, .bool (decide p)) :: e) L := by
  by_cases h : p
  · rw [decide_eq_true h]; exact ht h
  · rw [decide_eq_false h]; exact hf h
theorem x_open {N : Cont} {b el cap size : Nat} {xs : List Value} (h : ∀ cs : Array Value, cs.size = cap * size → (∀ (j : Nat) (u : Value), xs[j]? = some u → cs[j]? = some u) → At n w0 F N e (bl b el cs :: L)) : At n w0 F N e (sl (some ⟨b, 0, none⟩) cap el size xs :: L) :=
  fun a w hs ho => by obtain ⟨cs, h1, h2, h3⟩ := ho.open_; exact h cs h1 h2 a w hs h3
theorem x_heap {N : Cont} {L' : List Asn} (hL : ∀ w, Own w0 F L w → Own w0 F L' w) (h : At n w0 F N e L') : At n w0 F N e L := fun a w hs ho => h a w hs (hL w ho)
/-- Less is known from here on. -/
theorem x_less {N : Cont} {e' : Env} {L' : List Asn} (h0 : Sub e' e) (hL : ∀ w, Own w0 F L w → Own w0 F L' w) (h : At n w0 F N e' L') : At n w0 F N e L := fun a w hs ho => h a w (hs.sub h0) (hL w ho)
end
def isRowB : TypeDesc → Bool
  | .struct _ | .array _ _ => true
  | _ => false
def tyB (P : Program) (t : TypeId) (agg : Bool) (k : Nat) : Bool :=
  match P.underlying t, P.info? t with
  | some d, some i => isRowB d == agg && i.size == k
  | _, _ => false
def callB (P : Program) (f : FuncId) : Bool :=
  match P.funcs[f]? with
  | some fn => !(fn.name == "runtime.NumGoroutine") && !fn.body.isNone
  | none => false
/-- Field f of struct type s begins at cell k, and has cells. -/
def fieldB (P : Program) (s f k : Nat) : Bool :=
  match P.underlying s with
  | some (.struct fs) => match fs[f]? with
    | some fd => fd.offset == k && (match P.info? fd.type with | some i => i.size != 0 | none => false)
    | none => false
  | _ => false

section
variable {P : Program} {n : Nat} {w0 w : World} {F : List Nat} {e : Env} {L : List Asn} {ops : Array Oper} {Q : Exit → Act → World → Prop} {N : Cont} {S : World → Prop}
variable {dst : Option Nat} {ty : TypeId} {pos : String} {af : Array Edge} {g : Option (Nat × Bool)}

theorem rig_ {d : Option Nat} {op : Op} {v : Value} (h : ∀ a w, St n e a → S w → (execOp a.eval ⟨d, op, ty, pos, af, g⟩).run P w = .ok (.value v) w) : Rig P n S e ⟨d, op, ty, pos, af, g⟩ v := h

/-! ### copies -/
theorem r_move {x : Operand} {v : Value} (hx : ev e x = some v) : Rig P n S e ⟨dst, .move x, ty, pos, af, g⟩ v := fun a w hs _ => by
  simp [execOp, hs.ev_ hx]
theorem r_assign {x : Operand} {v : Value} (hx : ev e x = some v) : Rig P n S e ⟨dst, .assign x, ty, pos, af, g⟩ v := fun a w hs _ => by
  simp [execOp, hs.ev_ hx]
theorem r_pick_t {c x y : Operand} {v : Value} (hc : ev e c = some (.bool true)) (hx : ev e x = some v) : Rig P n S e ⟨dst, .pick c x y, ty, pos, af, g⟩ v := fun a w hs _ => by
  simp [execOp, hs.ev_ hx, hs.ev_ hc, asBool]
theorem r_pick_f {c x y : Operand} {v : Value} (hc : ev e c = some (.bool false)) (hy : ev e y = some v) : Rig P n S e ⟨dst, .pick c x y, ty, pos, af, g⟩ v := fun a w hs _ => by
  simp [execOp, hs.ev_ hy, hs.ev_ hc, asBool]
theorem r_extract {x : Operand} {vs : Array Value} {i : Nat} {v : Value} (hx : ev e x = some (.tuple vs)) (hv : vs[i]? = some v) : Rig P n S e ⟨dst, .extract x i, ty, pos, af, g⟩ v := fun a w hs _ => by
  simp [execOp, hs.ev_ hx, Instr.extract, hv]

/-! ### numbers -/
theorem i64_wrap {x : Int} (h1 : -9223372036854775808 ≤ x) (h2 : x ≤ 9223372036854775807) : IntKind.i64.wrap x = x := by
  rw [IntKind.wrap_i64]; omega
theorem r_add {x y : Operand} {t yt : TypeId} {a b : Int} (hx : ev e x = some (.int .i64 a)) (hy : ev e y = some (.int .i64 b)) (h : -9223372036854775808 ≤ a + b ∧ a + b ≤ 9223372036854775807) :
    Rig P n S e ⟨dst, .binOp .add t x y yt, ty, pos, af, g⟩ (.int .i64 (a + b)) := fun c w hs _ => by
  simp only [execOp, hs.ev_ hx, hs.ev_ hy]; simp [go_sem, Op.intArith, i64_wrap h.1 h.2]
theorem r_sub {x y : Operand} {t yt : TypeId} {a b : Int} (hx : ev e x = some (.int .i64 a)) (hy : ev e y = some (.int .i64 b)) (h : -9223372036854775808 ≤ a - b ∧ a - b ≤ 9223372036854775807) :
    Rig P n S e ⟨dst, .binOp .sub t x y yt, ty, pos, af, g⟩ (.int .i64 (a - b)) := fun c w hs _ => by
  simp only [execOp, hs.ev_ hx, hs.ev_ hy]; simp [go_sem, Op.intArith, i64_wrap h.1 h.2]
theorem r_mul {x y : Operand} {t yt : TypeId} {a b : Int} (hx : ev e x = some (.int .i64 a)) (hy : ev e y = some (.int .i64 b)) (h : -9223372036854775808 ≤ a * b ∧ a * b ≤ 9223372036854775807) :
    Rig P n S e ⟨dst, .binOp .mul t x y yt, ty, pos, af, g⟩ (.int .i64 (a * b)) := fun c w hs _ => by
  simp only [execOp, hs.ev_ hx, hs.ev_ hy]; simp [go_sem, Op.intArith, i64_wrap h.1 h.2]
theorem r_lss {x y : Operand} {t yt : TypeId} {k : IntKind} {a b : Int} {r : Bool} (hx : ev e x = some (.int k a)) (hy : ev e y = some (.int k b)) (h : decide (a < b) = r) :
    Rig P n S e ⟨dst, .binOp .lss t x y yt, ty, pos, af, g⟩ (.bool r) := fun c w hs _ => by
  subst h; simp only [execOp, hs.ev_ hx, hs.ev_ hy]; simp [go_sem]
theorem r_leq {x y : Operand} {t yt : TypeId} {k : IntKind} {a b : Int} {r : Bool} (hx : ev e x = some (.int k a)) (hy : ev e y = some (.int k b)) (h : decide (a ≤ b) = r) :
    Rig P n S e ⟨dst, .binOp .leq t x y yt, ty, pos, af, g⟩ (.bool r) := fun c w hs _ => by
  subst h; simp only [execOp, hs.ev_ hx, hs.ev_ hy]; simp [go_sem]
theorem r_gtr {x y : Operand} {t yt : TypeId} {k : IntKind} {a b : Int} {r : Bool} (hx : ev e x = some (.int k a)) (hy : ev e y = some (.int k b)) (h : decide (a > b) = r) :
    Rig P n S e ⟨dst, .binOp .gtr t x y yt, ty, pos, af, g⟩ (.bool r) := fun c w hs _ => by
  subst h; simp only [execOp, hs.ev_ hx, hs.ev_ hy]; simp [go_sem]
theorem r_geq {x y : Operand} {t yt : TypeId} {k : IntKind} {a b : Int} {r : Bool} (hx : ev e x = some (.int k a)) (hy : ev e y = some (.int k b)) (h : decide (a ≥ b) = r) :
    Rig P n S e ⟨dst, .binOp .geq t x y yt, ty, pos, af, g⟩ (.bool r) := fun c w hs _ => by
  subst h; simp only [execOp, hs.ev_ hx, hs.ev_ hy]; simp [go_sem]
theorem r_eql {x y : Operand} {t yt : TypeId} {k : IntKind} {a b : Int} {r : Bool} (hx : ev e x = some (.int k a)) (hy : ev e y = some (.int k b)) (h : decide (a = b) = r) :
    Rig P n S e ⟨dst, .binOp .eql t x y yt, ty, pos, af, g⟩ (.bool r) := fun c w hs _ => by
  subst h; simp only [execOp, hs.ev_ hx, hs.ev_ hy]; simp [go_sem]; try (rw [Bool.eq_iff_iff]; simp)
theorem r_neq {x y : Operand} {t yt : TypeId} {k : IntKind} {a b : Int} {r : Bool} (hx : ev e x = some (.int k a)) (hy : ev e y = some (.int k b)) (h : decide (a ≠ b) = r) :
    Rig P n S e ⟨dst, .binOp .neq t x y yt, ty, pos, af, g⟩ (.bool r) := fun c w hs _ => by
  subst h; simp only [execOp, hs.ev_ hx, hs.ev_ hy]; simp [go_sem]; try (rw [Bool.eq_iff_iff]; simp)
theorem r_not {x : Operand} {t : TypeId} {b : Bool} {r : Bool} (hx : ev e x = some (.bool b)) (h : (!b) = r) : Rig P n S e ⟨dst, .unOp .not t x, ty, pos, af, g⟩ (.bool r) := fun c w hs _ => by
  subst h; simp only [execOp, hs.ev_ hx]; simp [go_sem, Op.unary]
theorem r_shr (m : Int) {x y : Operand} {t yt : TypeId} {yk : IntKind} {a b : Int} (hx : ev e x = some (.int .i64 a)) (hy : ev e y = some (.int yk b)) (hm : (2 : Int) ^ b.toNat = m) (h : 0 ≤ b ∧ b ≤ 64) :
    Rig P n S e ⟨dst, .binOp .shr t x y yt, ty, pos, af, g⟩ (.int .i64 (a / m)) := fun c w hs _ => by
  subst hm
  simp only [execOp, hs.ev_ hx, hs.ev_ hy]; simp [go_sem, shift_shr_i64 yk a b h.1 h.2]
theorem r_shl (m : Int) {x y : Operand} {t yt : TypeId} {yk : IntKind} {a b : Int} (hx : ev e x = some (.int .i64 a)) (hy : ev e y = some (.int yk b)) (hm : (2 : Int) ^ b.toNat = m) (h : 0 ≤ b ∧ b ≤ 64) (h2 : -9223372036854775808 ≤ a * m ∧ a * m ≤ 9223372036854775807) :
    Rig P n S e ⟨dst, .binOp .shl t x y yt, ty, pos, af, g⟩ (.int .i64 (a * m)) := fun c w hs _ => by
  subst hm
  simp only [execOp, hs.ev_ hx, hs.ev_ hy]; simp [go_sem, shift_shl_i64 yk a b h.1 h.2, i64_wrap h2.1 h2.2]
theorem or_add (a b : Int) (h0 : 0 ≤ a) (h1 : a % 256 = 0) (h2 : 0 ≤ b) (h3 : b < 256) (h4 : a + b < 9223372036854775808) : bits .or .i64 a b = a + b := by
  obtain ⟨x, rfl⟩ := Int.eq_ofNat_of_zero_le h0
  obtain ⟨y, rfl⟩ := Int.eq_ofNat_of_zero_le h2
  rw [Wd.i64_or_nat x y (by omega) (by omega)]
  have hx : x = 256 * (x / 256) := by omega
  have : x ||| y = x + y := by
    rw [hx, show 256 = 2 ^ 8 from rfl, Nat.two_pow_add_eq_or_of_lt (by omega : y < 2 ^ 8)]
  rw [this]
  omega
theorem r_bits {x y : Operand} {t yt : TypeId} {k : IntKind} {a b c' : Int} {op : BinOp} (ho : (match op with | .and | .or | .xor | .andNot => true | _ => false) = true) (hx : ev e x = some (.int k a)) (hy : ev e y = some (.int k b)) (hc : bits op k a b = c') :
    Rig P n S e ⟨dst, .binOp op t x y yt, ty, pos, af, g⟩ (.int k c') := fun c w hs _ => by
  subst hc
  cases op <;> first | (cases ho; done) | simp only [execOp, hs.ev_ hx, hs.ev_ hy]; simp [go_sem]
theorem r_conv_int {x : Operand} {s d : TypeId} {ds : TypeDesc} {k kd : IntKind} {a c' : Int} (hds : P.underlying s = some ds) (hd : P.underlying d = some (.int kd)) (hx : ev e x = some (.int k a)) (hc : kd.wrap a = c') :
    Rig P n S e ⟨dst, .convert s d x, ty, pos, af, g⟩ (.int kd c') := fun c w hs _ => by
  subst hc
  simp [execOp, hs.ev_ hx, convert, run_underlying hds, run_underlying hd, Conv.intToInt]

/-! ### strings -/
theorem r_len_string {x : Operand} {t : TypeId} {s : ByteArray} (ht : P.underlying t = some .string) (hx : ev e x = some (.string s)) :
    Rig P n S e ⟨dst, .call { callee := .builtin .len, args := #[x], argTypes := #[t] }, ty, pos, af, g⟩ (.int .i64 s.size) := fun c w hs _ => by
  simp [execOp, resolve, invoke, builtin, hs.ev_ hx, Builtin.len_, run_underlying ht, goInt]
theorem r_index_string {x y : Operand} {t : TypeId} {k : IntKind} {s : ByteArray} {i : Int} (ht : P.underlying t = some .string) (hx : ev e x = some (.string s)) (hy : ev e y = some (.int k i)) (h0 : 0 ≤ i) {b : UInt8} (hb : s.data.toList[i.toNat]? = some b) :
    Rig P n S e ⟨dst, .index t x y, ty, pos, af, g⟩ (.int .u8 (b.toNat : Int)) := fun c w hs _ => by
  have hb' : s[i.toNat]? = some b := by
    have hl : i.toNat < s.data.toList.length := (List.getElem?_eq_some_iff.1 hb).1
    have hl' : i.toNat < s.size := by simpa using hl
    rw [getElem?_pos s i.toNat hl']
    rw [List.getElem?_eq_getElem hl] at hb
    injection hb with hb
    rw [← hb]
    rfl
  simp [execOp, hs.ev_ hx, hs.ev_ hy, Instr.index, run_underlying ht, asIntOf, h0, hb']
theorem r_eql_string {x y : Operand} {t yt : TypeId} {a b : ByteArray} {r : Bool} (hx : ev e x = some (.string a)) (hy : ev e y = some (.string b)) (h : (a.toList == b.toList) = r) :
    Rig P n S e ⟨dst, .binOp .eql t x y yt, ty, pos, af, g⟩ (.bool r) := fun c w hs _ => by
  subst h; simp only [execOp, hs.ev_ hx, hs.ev_ hy]; simp [go_sem]
theorem r_neq_string {x y : Operand} {t yt : TypeId} {a b : ByteArray} {r : Bool} (hx : ev e x = some (.string a)) (hy : ev e y = some (.string b)) (h : (!(a.toList == b.toList)) = r) :
    Rig P n S e ⟨dst, .binOp .neq t x y yt, ty, pos, af, g⟩ (.bool r) := fun c w hs _ => by
  subst h; simp only [execOp, hs.ev_ hx, hs.ev_ hy]; simp [go_sem]
theorem r_lss_string {x y : Operand} {t yt : TypeId} {a b : ByteArray} {r : Bool} (hx : ev e x = some (.string a)) (hy : ev e y = some (.string b)) (h : Op.bytesLess a.toList b.toList = r) :
    Rig P n S e ⟨dst, .binOp .lss t x y yt, ty, pos, af, g⟩ (.bool r) := fun c w hs _ => by
  subst h; simp only [execOp, hs.ev_ hx, hs.ev_ hy]; simp [go_sem]
theorem r_leq_string {x y : Operand} {t yt : TypeId} {a b : ByteArray} {r : Bool} (hx : ev e x = some (.string a)) (hy : ev e y = some (.string b)) (h : (Op.bytesLess a.toList b.toList || a.toList == b.toList) = r) :
    Rig P n S e ⟨dst, .binOp .leq t x y yt, ty, pos, af, g⟩ (.bool r) := fun c w hs _ => by
  subst h; simp only [execOp, hs.ev_ hx, hs.ev_ hy]; simp [go_sem]
theorem r_geq_string {x y : Operand} {t yt : TypeId} {a b : ByteArray} {r : Bool} (hx : ev e x = some (.string a)) (hy : ev e y = some (.string b)) (h : (!(Op.bytesLess a.toList b.toList)) = r) :
    Rig P n S e ⟨dst, .binOp .geq t x y yt, ty, pos, af, g⟩ (.bool r) := fun c w hs _ => by
  subst h; simp only [execOp, hs.ev_ hx, hs.ev_ hy]; simp [go_sem]
theorem r_gtr_string {x y : Operand} {t yt : TypeId} {a b : ByteArray} {r : Bool} (hx : ev e x = some (.string a)) (hy : ev e y = some (.string b)) (h : (!(Op.bytesLess a.toList b.toList) && !(a.toList == b.toList)) = r) :
    Rig P n S e ⟨dst, .binOp .gtr t x y yt, ty, pos, af, g⟩ (.bool r) := fun c w hs _ => by
  subst h; simp only [execOp, hs.ev_ hx, hs.ev_ hy]; simp [go_sem]
theorem r_cat {x y : Operand} {t yt : TypeId} {a b : ByteArray} (hx : ev e x = some (.string a)) (hy : ev e y = some (.string b)) (h : a.size + b.size ≤ 140737488355328) :
    Rig P n S e ⟨dst, .binOp .add t x y yt, ty, pos, af, g⟩ (.string (a ++ b)) := fun c w hs _ => by
  simp only [execOp, hs.ev_ hx, hs.ev_ hy]
  have h2 : ¬ ((a.size + b.size : Nat) : Int) > IntKind.i64.max := by
    have : IntKind.i64.max = 9223372036854775807 := by decide
    omega
  simp [go_sem, Op.stringOp]
  omega
/-! ### addresses and loads -/
theorem r_fieldAddr {x : Operand} {s f k : Nat} {a : Addr} (hf : fieldB P s f k = true) (hx : ev e x = some (.pointer (some a))) : Rig P n S e ⟨dst, .fieldAddr s x f, ty, pos, af, g⟩ (.pointer (some (a.add k))) := fun c w hs _ => by
  unfold fieldB at hf
  cases hu : P.underlying s with
  | none => simp [hu] at hf
  | some d =>
    cases d <;> simp only [hu] at hf <;> try (cases hf; done)
    rename_i fs
    cases hfd : fs[f]? with
    | none => simp [hfd] at hf
    | some fd =>
      cases hi : P.info? fd.type with
      | none => simp [hfd, hi] at hf
      | some i =>
        simp only [hfd, hi, Bool.and_eq_true, beq_iff_eq, bne_iff_ne] at hf
        simp [execOp, hs.ev_ hx, Instr.fieldAt, run_underlying hu, hfd, Instr.sureAddr, fieldPlace, sizeOf, typeInfo, hi, hf.2, hf.1]
theorem run_load1 {t : TypeId} (ht : tyB P t false 1 = true) {a : Addr} {v : Value} (hc : w.cell? a = some v) : (loadVar t a).run P w = .ok v w := by
  unfold tyB at ht
  cases hu : P.underlying t with
  | none => simp [hu] at ht
  | some d =>
    cases hi : P.info? t with
    | none => simp [hu, hi] at ht
    | some i =>
      simp only [hu, hi, Bool.and_eq_true, beq_iff_eq] at ht
      have hagg : (isAgg t).run P w = .ok false w := by
        unfold isAgg
        rw [Sem.run_bind, run_underlying hu w]
        have := ht.1
        cases d <;> simp_all [isRowB]
      simp [loadVar, Sem.run_bind, hagg, hc]
theorem run_loadN {t : TypeId} {k : Nat} (ht : tyB P t true k = true) {a : Addr} {cs : List Value} (hl : cs.length = k) (hc : ∀ (j : Nat) (v : Value), cs[j]? = some v → w.cell? (a.add j) = some v) : (loadVar t a).run P w = .ok (.agg cs.toArray) w := by
  unfold tyB at ht
  cases hu : P.underlying t with
  | none => simp [hu] at ht
  | some d =>
    cases hi : P.info? t with
    | none => simp [hu, hi] at ht
    | some i =>
      simp only [hu, hi, Bool.and_eq_true, beq_iff_eq] at ht
      have hagg : (isAgg t).run P w = .ok true w := by
        unfold isAgg
        rw [Sem.run_bind, run_underlying hu w]
        have := ht.1
        cases d <;> simp_all [isRowB]
      have hlc : (loadCells a i.size).run P w = .ok cs.toArray w := by
        have := run_loadCells_list (P := P) w a cs hc
        rwa [hl, ← ht.2] at this
      simp [loadVar, Sem.run_bind, hagg, sizeOf, typeInfo, hi, hlc]
theorem r_load1 {x : Operand} {t : TypeId} {a : Addr} {v : Value} (ht : tyB P t false 1 = true) (hx : ev e x = some (.pointer (some a))) (hc : ∀ w, S w → w.cell? a = some v) : Rig P n S e ⟨dst, .load t x, ty, pos, af, g⟩ v := fun c w hs hS => by
  simp [execOp, hs.ev_ hx, Instr.loadAt, Instr.sureAddr, run_load1 ht (hc w hS)]
theorem r_loadN {x : Operand} {t k : Nat} {a : Addr} (cs : List Value) (ht : tyB P t true k = true) (hl : cs.length = k) (hx : ev e x = some (.pointer (some a))) (hc : ∀ w, S w → ∀ (j : Nat) (v : Value), cs[j]? = some v → w.cell? (a.add j) = some v) :
    Rig P n S e ⟨dst, .load t x, ty, pos, af, g⟩ (.agg cs.toArray) := fun c w hs hS => by
  simp [execOp, hs.ev_ hx, Instr.loadAt, Instr.sureAddr, run_loadN ht hl (hc w hS)]
/-- A cell of a block of the call's own. -/
theorem r_own {x : Operand} {t : TypeId} {i b k bt : Nat} {cs : Array Value} {v : Value} (ht : tyB P t false 1 = true) (hx : ev e x = some (.pointer (some ⟨b, k, none⟩))) (hi : L[i]? = some (bl b bt cs)) (hv : cs[k]? = some v) :
    Rig P n (Own w0 F L) e ⟨dst, .load t x, ty, pos, af, g⟩ v := r_load1 ht hx fun w hS => by rw [hS.cell_ hi]; exact hv
theorem r_own_add {x : Operand} {t : TypeId} {i b k j bt : Nat} {cs : Array Value} {v : Value} (ht : tyB P t false 1 = true) (hx : ev e x = some (.pointer (some (Addr.add ⟨b, k, none⟩ j)))) (hi : L[i]? = some (bl b bt cs)) (hv : cs[k + j]? = some v) :
    Rig P n (Own w0 F L) e ⟨dst, .load t x, ty, pos, af, g⟩ v := r_load1 ht hx fun w hS => by rw [add_lit, hS.cell_ hi]; exact hv
/-- A whole block of the call's own. -/
theorem r_ownN {x : Operand} {t : TypeId} {i b k bt : Nat} {cs : List Value} (ht : tyB P t true k = true) (hl : cs.length = k) (hx : ev e x = some (.pointer (some ⟨b, 0, none⟩))) (hi : L[i]? = some (bl b bt cs.toArray)) :
    Rig P n (Own w0 F L) e ⟨dst, .load t x, ty, pos, af, g⟩ (.agg cs.toArray) := r_loadN cs ht hl hx fun w hS j v hv => by
  rw [add_lit, hS.cell_ hi]; simpa using hv
/-- A cell that was there when the call began. -/
theorem r_old {x : Operand} {t : TypeId} {a : Addr} {v : Value} (ht : tyB P t false 1 = true) (hx : ev e x = some (.pointer (some a))) (hc : w0.cell? a = some v) (hF : a.block ∉ F) :
    Rig P n (Own w0 F L) e ⟨dst, .load t x, ty, pos, af, g⟩ v := r_load1 ht hx fun w hS => hS.old_ hc hF

/-! ### slices -/
theorem r_len_slice {x : Operand} {t el : TypeId} {A : Option Addr} {m c : Nat} (ht : P.underlying t = some (.slice el)) (hx : ev e x = some (.slice A m c)) :
    Rig P n S e ⟨dst, .call { callee := .builtin .len, args := #[x], argTypes := #[t] }, ty, pos, af, g⟩ (.int .i64 m) := fun a w hs _ => by
  simp [execOp, resolve, invoke, builtin, hs.ev_ hx, Builtin.len_, run_underlying ht, goInt]
theorem r_cap_slice {x : Operand} {t el : TypeId} {A : Option Addr} {m c : Nat} (ht : P.underlying t = some (.slice el)) (hx : ev e x = some (.slice A m c)) :
    Rig P n S e ⟨dst, .call { callee := .builtin .cap, args := #[x], argTypes := #[t] }, ty, pos, af, g⟩ (.int .i64 c) := fun a w hs _ => by
  simp [execOp, resolve, invoke, builtin, hs.ev_ hx, Builtin.cap_, run_underlying ht, goInt]
theorem r_indexAddr {x y : Operand} {t el : TypeId} {a : Addr} {m c size bytes : Nat} {z : Value} {k : IntKind} {i : Int} (ht : P.underlying t = some (.slice el)) (hel : (P.info? el).map (fun i => (i.zero, i.size, i.bytes)) = some (some z, size, bytes))
    (hx : ev e x = some (.slice (some a) m c)) (hy : ev e y = some (.int k i)) (h : 0 ≤ i ∧ i < (m : Int)) :
    Rig P n S e ⟨dst, .indexAddr t x y, ty, pos, af, g⟩ (.pointer (some (a.add (i.toNat * size)))) := fun ac w hs _ => by
  obtain ⟨j, hi, hj⟩ := Option.map_eq_some_iff.1 hel
  simp only [Prod.mk.injEq] at hj
  simp [execOp, hs.ev_ hx, hs.ev_ hy, Instr.indexAt, run_underlying ht, asIntOf, h.1, h.2, sizeOf, typeInfo, hi, hj.2.1]
theorem r_slice_hi {x y : Operand} {t el : TypeId} {A : Option Addr} {m c size bytes : Nat} {z : Value} {k : IntKind} {i : Int} (ht : P.underlying t = some (.slice el)) (hel : (P.info? el).map (fun i => (i.zero, i.size, i.bytes)) = some (some z, size, bytes))
    (hx : ev e x = some (.slice A m c)) (hy : ev e y = some (.int k i)) (h : 0 ≤ i ∧ i ≤ (c : Int)) :
    Rig P n S e ⟨dst, .slice t x none (some y) none, ty, pos, af, g⟩ (.slice A i.toNat c) := fun ac w hs _ => by
  obtain ⟨j, hi, hj⟩ := Option.map_eq_some_iff.1 hel
  simp only [Prod.mk.injEq] at hj
  have e0 : (if c = 0 then A else A.map (·.add 0)) = A := by split <;> cases A <;> simp [Addr.add]
  simp [execOp, hs.ev_ hx, hs.ev_ hy, Instr.sliceAt, Instr.slice, Instr.sliceBounds, Instr.sliceBound, run_underlying ht, asIntOf, h.1, h.2, sizeOf, typeInfo, hi, hj.2.1, e0]
theorem r_slice_lo {x y : Operand} {t el : TypeId} {A : Option Addr} {m c size bytes : Nat} {z : Value} {k : IntKind} {i : Int} (ht : P.underlying t = some (.slice el)) (hel : (P.info? el).map (fun i => (i.zero, i.size, i.bytes)) = some (some z, size, bytes))
    (hx : ev e x = some (.slice A m c)) (hy : ev e y = some (.int k i)) (h : 0 ≤ i ∧ i ≤ (m : Int)) (hmc : m ≤ c) :
    Rig P n S e ⟨dst, .slice t x (some y) none none, ty, pos, af, g⟩ (.slice (if c = i.toNat then A else A.map (·.add (i.toNat * size))) (m - i.toNat) (c - i.toNat)) := fun ac w hs _ => by
  obtain ⟨j, hi, hj⟩ := Option.map_eq_some_iff.1 hel
  simp only [Prod.mk.injEq] at hj
  simp [execOp, hs.ev_ hx, hs.ev_ hy, Instr.sliceAt, Instr.slice, Instr.sliceBounds, Instr.sliceBound, run_underlying ht, asIntOf, h.1, h.2, sizeOf, typeInfo, hi, hj.2.1]
theorem r_slice_lohi {x y z' : Operand} {t el : TypeId} {A : Option Addr} {m c size bytes : Nat} {z : Value} {k k' : IntKind} {i j : Int} (ht : P.underlying t = some (.slice el)) (hel : (P.info? el).map (fun i => (i.zero, i.size, i.bytes)) = some (some z, size, bytes))
    (hx : ev e x = some (.slice A m c)) (hy : ev e y = some (.int k i)) (hz : ev e z' = some (.int k' j)) (h : 0 ≤ i ∧ i ≤ j ∧ j ≤ (c : Int)) :
    Rig P n S e ⟨dst, .slice t x (some y) (some z') none, ty, pos, af, g⟩ (.slice (if c = i.toNat then A else A.map (·.add (i.toNat * size))) (j.toNat - i.toNat) (c - i.toNat)) := fun ac w hs _ => by
  obtain ⟨q, hi, hj⟩ := Option.map_eq_some_iff.1 hel
  simp only [Prod.mk.injEq] at hj
  obtain ⟨i', rfl⟩ := Int.eq_ofNat_of_zero_le h.1
  obtain ⟨j', rfl⟩ := Int.eq_ofNat_of_zero_le (show 0 ≤ j by omega)
  have h1 : i' ≤ j' := by omega
  have h2 : j' ≤ c := by omega
  simp [execOp, hs.ev_ hx, hs.ev_ hy, hs.ev_ hz, Instr.sliceAt, Instr.slice, Instr.sliceBounds, Instr.sliceBound, run_underlying ht, asIntOf, sizeOf, typeInfo, hi, hj.2.1, h1, h2]
theorem run_eq_nil {t el : TypeId} {A : Option Addr} {m c : Nat} (ht : P.underlying t = some (.slice el)) : (binOp .eql t (.slice A m c) (.slice none 0 0)).run P w = .ok (.bool A.isNone) w := by
  exact Lib.run_eql_slice_nil w t el A m c 0 0 ht
theorem r_eql_slice_nil {x y : Operand} {t el yt : TypeId} {A : Option Addr} {m c : Nat} {r : Bool} (ht : P.underlying t = some (.slice el)) (hx : ev e x = some (.slice A m c)) (hy : ev e y = some (.slice none 0 0)) (h : A.isNone = r) :
    Rig P n S e ⟨dst, .binOp .eql t x y yt, ty, pos, af, g⟩ (.bool r) := fun ac w hs _ => by
  subst h
  simp only [execOp, hs.ev_ hx, hs.ev_ hy, eqGuard_at_slice, Sem.run_bind, Sem.run_pure, Result.andThen_ok, run_eq_nil ht]

/-! ### values that are built -/
def placesB (P : Program) (t : TypeId) (pl : List (Nat × Nat)) : Bool :=
  match P.underlying t with
  | some (.struct fs) => (fs.toList.mapM fun f => (P.info? f.type).map fun i => (f.offset, i.size)) == some pl
  | _ => false
def fillL (pl : List (Nat × Nat)) : List Value → List (Nat × Value) → Option (List Value)
  | cs, [] => some cs
  | cs, (i, v) :: rest => match pl[i]? with
    | none => none
    | some (off, size) => bif Nat.beq v.cells.toList.length size && Nat.ble (off + size) cs.length then fillL pl (cs.take off ++ (v.cells.toList ++ cs.drop (off + size))) rest else none
theorem foldl_splice (off : Nat) : ∀ (vs : List Value) (k : Nat) (cs : Array Value), off + k + vs.length ≤ cs.size →
    ((vs.zipIdx k).foldl (fun cs (x : Value × Nat) => cs.setIfInBounds (off + x.2) x.1) cs).toList = cs.toList.take (off + k) ++ (vs ++ cs.toList.drop (off + k + vs.length))
  | [], k, cs, _ => by simp
  | v :: r, k, cs, h => by
    have hk : off + k < cs.size := by simp at h; omega
    simp only [List.zipIdx_cons, List.foldl_cons]
    rw [foldl_splice off r (k + 1) _ (by simp at h ⊢; omega)]
    simp only [Array.toList_setIfInBounds, List.length_cons]
    have hl : off + k < cs.toList.length := by simpa using hk
    rw [show off + (k + 1) = off + k + 1 by omega, List.take_succ_eq_append_getElem (by simpa using hl), List.getElem_set_self, List.take_set_of_le (by omega), List.drop_set_of_lt (by omega)]
    simp [Nat.add_assoc, Nat.add_comm 1]
theorem fill_of_fillL {pl : List (Nat × Nat)} : ∀ (ps : List (Nat × Value)) (cs : Array Value) (cl : List Value), fillL pl cs.toList ps = some cl → Instr.fill (pl.toArray[·]?) cs ps = some cl.toArray
  | [], cs, cl, h => by simp [fillL] at h; subst h; simp [Instr.fill]
  | (i, v) :: rest, cs, cl, h => by
    simp only [fillL] at h
    cases hp : pl[i]? with
    | none => rw [hp] at h; cases h
    | some os =>
      obtain ⟨off, size⟩ := os
      rw [hp] at h
      simp only [] at h
      cases hb : (Nat.beq v.cells.toList.length size && Nat.ble (off + size) cs.toList.length) with
      | false => rw [hb] at h; cases h
      | true =>
        rw [hb] at h
        simp only [cond_true] at h
        simp only [Bool.and_eq_true] at hb
        have h1 : v.cells.toList.length = size := Nat.eq_of_beq_eq_true hb.1
        have h2 : off + size ≤ cs.toList.length := Nat.le_of_ble_eq_true hb.2
        have h3 : v.cells.size = size := by simpa using h1
        have hfold : (v.cells.zipIdx.foldl (fun cs (x : Value × Nat) => cs.setIfInBounds (off + x.2) x.1) cs).toList = cs.toList.take off ++ (v.cells.toList ++ cs.toList.drop (off + size)) := by
          have := foldl_splice off v.cells.toList 0 cs (by simp at h2 ⊢; omega)
          rw [← Array.foldl_toList]
          simp only [Array.toList_zipIdx]
          rw [this, h1, Nat.add_zero]
        rw [← hfold] at h
        have ih := fill_of_fillL rest _ cl h
        simp only [Instr.fill, List.getElem?_toArray, hp]
        rw [if_neg (by simp at h2; simp [h3]; omega)]
        simp only [List.getElem?_toArray] at ih
        exact ih
theorem r_build {t size bytes : Nat} {pl : List (Nat × Nat)} {z : Value} {parts : Array (Nat × Operand)} {vs : List Value} {cl : List Value} (hz : (P.info? t).map (fun i => (i.zero, i.size, i.bytes)) = some (some z, size, bytes)) (hpl : placesB P t pl = true)
    (hp : evs e (parts.toList.map (·.2)) = some vs) (hf : fillL pl z.cells.toList ((parts.toList.map (·.1)).zip vs) = some cl) :
    Rig P n S e ⟨dst, .build t parts, ty, pos, af, g⟩ (.agg cl.toArray) := fun ac w hs _ => by
  have h1 := hs.evs_ hp
  have h2 : (parts.map fun (i, x) => (i, ac.eval x)).toList = (parts.toList.map (·.1)).zip vs := by
    rw [Array.toList_map, ← h1]
    clear h1 hp hf
    generalize parts.toList = l
    induction l with
    | nil => rfl
    | cons p r ih => simp [ih]
  have hb : P.built t ((parts.toList.map (·.1)).zip vs) = some cl.toArray := by
    obtain ⟨j, hi, hj⟩ := Option.map_eq_some_iff.1 hz
    simp only [Prod.mk.injEq] at hj
    unfold placesB at hpl
    unfold Program.built
    cases hu : P.underlying t with
    | none => simp [hu] at hpl
    | some d =>
      cases d <;> simp only [hu] at hpl <;> try (cases hpl; done)
      rename_i fs
      have hpl' := beq_iff_eq.1 hpl
      simp only [hi, hj.1, hpl']
      exact fill_of_fillL _ _ _ hf
  simp only [execOp, Sem.run_bind]
  rw [run_build w t _ cl.toArray (by rw [h2]; exact hb)]
  rfl

/-! ### operations that turn the world -/
theorem s_box {d : Nat} {x : Operand} {t : TypeId} {v : Value} (hx : ev e x = some v) (hd : Nat.blt d n = true)
    (h : ∀ b, w0.heap.size ≤ b → At n w0 F N ((d, .pointer (some ⟨b, 0, none⟩)) :: e) (bl b t v.cells :: L)) : At n w0 F (Pw P ⟨some d, .box t x, ty, pos, af, g⟩ N Q) e L := by
  intro a w hs ho
  have hrun : (execOp a.eval ⟨some d, .box t x, ty, pos, af, g⟩).run P w = .ok (.value (.pointer (some ⟨w.heap.size, 0, none⟩))) (w.alloc (.cells v.cells t)) := by
    simp [execOp, hs.ev_ hx, Instr.box, newVar, newRow]
  simp only [Pw, Oper.wp, hrun, Oper.upon]
  exact h w.heap.size ho.size _ _ (hs.put_ hd _) (ho.alloc_ _ _ rfl rfl)
theorem s_alloc {d : Nat} {t size bytes : Nat} {z : Value} (hel : (P.info? t).map (fun i => (i.zero, i.size, i.bytes)) = some (some z, size, bytes)) (hd : Nat.blt d n = true)
    (h : ∀ b, w0.heap.size ≤ b → At n w0 F N ((d, .pointer (some ⟨b, 0, none⟩)) :: e) (bl b t z.cells :: L)) : At n w0 F (Pw P ⟨some d, .alloc t, ty, pos, af, g⟩ N Q) e L := by
  intro a w hs ho
  obtain ⟨j, hi, hj⟩ := Option.map_eq_some_iff.1 hel
  simp only [Prod.mk.injEq] at hj
  have hrun : (execOp a.eval ⟨some d, .alloc t, ty, pos, af, g⟩).run P w = .ok (.value (.pointer (some ⟨w.heap.size, 0, none⟩))) (w.alloc (.cells z.cells t)) := by
    simp [execOp, Instr.alloc, newVar, newRow, zeroValue, typeInfo, hi, hj.1]
  simp only [Pw, Oper.wp, hrun, Oper.upon]
  exact h w.heap.size ho.size _ _ (hs.put_ hd _) (ho.alloc_ _ _ rfl rfl)
theorem Own.row_ (h : Own w0 F L w) {i b bt : Nat} {cs cs' : Array Value} (hi : L[i]? = some (bl b bt cs)) : Own w0 F (L.set i (bl b bt cs')) (w.setRow b cs') := by
  obtain ⟨o, ho, rfl⟩ := h.ok _ (List.mem_of_getElem? hi) b rfl
  refine h.write_ hi rfl rfl rfl rfl rfl (by simp [World.setRow]) (o := .cells cs' bt (0, 0)) ?_ rfl (fun c hc => ?_)
  · simp [World.setRow, Array.getElem?_modify, ho]
  · simp only [World.setRow, Array.getElem?_modify]
    rw [if_neg (fun h => hc h.symm)]
def put_ (cs : Array Value) (k : Nat) (vs : List Value) : Array Value := (cs.toList.take k ++ vs ++ cs.toList.drop (k + vs.length)).toArray
theorem run_store_at {t : TypeId} {b k bt m : Nat} {v : Value} {cs : Array Value} {agg : Bool} (ht : tyB P t agg m = true) (hm : v.cells.size = m) (hg : w.heap[b]? = some (.cells cs bt (0, 0))) (hk : k + m ≤ cs.size) (h1 : ∀ u ∈ v.cells.toList, u.oneCell' = true) :
    (Instr.storeAt t (.pointer (some ⟨b, k, none⟩)) v).run P w = .ok () (w.setRow b (put_ cs k v.cells.toList)) := by
  unfold tyB at ht
  cases hu : P.underlying t with
  | none => simp [hu] at ht
  | some d =>
    cases hi : P.info? t with
    | none => simp [hu, hi] at ht
    | some i =>
      simp only [hu, hi, Bool.and_eq_true, beq_iff_eq] at ht
      have hl : v.cells.toList.length = m := by simpa using hm
      have := run_storeCells_at (P := P) b k bt v.cells.toList 0 cs w hg (by omega) h1
      simp only [Nat.add_zero] at this
      simp [Instr.storeAt, Instr.sureAddr, storeVar, sizeOf, typeInfo, hi, hm, ht.2, this, put_]
theorem s_store {x y : Operand} {t i b k bt m : Nat} {v : Value} {cs : Array Value} {agg : Bool} (ht : tyB P t agg m = true) (hx : ev e x = some (.pointer (some ⟨b, k, none⟩))) (hy : ev e y = some v) (hi : L[i]? = some (bl b bt cs)) (hm : v.cells.size = m) (hk : Nat.ble (k + m) cs.size = true)
    (h1 : v.cells.toList.all (·.oneCell') = true) (h : At n w0 F N e (L.set i (bl b bt (put_ cs k v.cells.toList)))) : At n w0 F (Pw P ⟨none, .store t x y, ty, pos, af, g⟩ N Q) e L := by
  intro a w hs ho
  obtain ⟨o, hg, rfl⟩ := ho.ok _ (List.mem_of_getElem? hi) b rfl
  have hrun : (execOp a.eval ⟨none, .store t x y, ty, pos, af, g⟩).run P w = .ok .skip (w.setRow b (put_ cs k v.cells.toList)) := by
    simp [execOp, hs.ev_ hx, hs.ev_ hy, run_store_at ht hm hg (Nat.le_of_ble_eq_true hk) (fun u hu => List.all_eq_true.1 h1 u hu)]
  simp only [Pw, Oper.wp, hrun, Oper.upon]
  exact h _ _ hs (ho.row_ hi)

def fillB (zc : Array Value) (len size : Nat) (ps : List (Nat × Value)) : Option (Array Value) :=
  Instr.fill (fun i => some (i * size, size)) ((List.range (len * size)).map (zc[· % zc.size]!)).toArray ps
theorem fillB_eq (zc : Array Value) (len size : Nat) (ps : List (Nat × Value)) : fillB zc len size ps = Instr.fill (fun i => some (i * size, size)) ((Array.range (len * size)).map (zc[· % zc.size]!)) ps := by
  unfold fillB
  congr 1
  apply Array.ext'
  simp
theorem s_buildSlice {d : Nat} {t el len size bytes : Nat} {parts : Array (Nat × Operand)} {vs : List Value} {z : Value} {cells : Array Value} (ht : P.underlying t = some (.slice el)) (hel : (P.info? el).map (fun i => (i.zero, i.size, i.bytes)) = some (some z, size, bytes))
    (hp : evs e (parts.toList.map (·.2)) = some vs) (hb : fillB z.cells len size ((parts.toList.map (·.1)).zip vs) = some cells) (hsm : Nat.ble (len * size) 16777216 = true) (hd : Nat.blt d n = true)
    (h : ∀ b, w0.heap.size ≤ b → At n w0 F N ((d, .slice (some ⟨b, 0, none⟩) len len) :: e) (bl b el cells :: L)) : At n w0 F (Pw P ⟨some d, .buildSlice t len parts, ty, pos, af, g⟩ N Q) e L := by
  intro a w hs ho
  obtain ⟨j, hi, hj⟩ := Option.map_eq_some_iff.1 hel
  simp only [Prod.mk.injEq] at hj
  have h1 := hs.evs_ hp
  have h2 : (parts.map fun (i, x) => (i, a.eval x)).toList = (parts.toList.map (·.1)).zip vs := by
    rw [Array.toList_map, ← h1]
    clear h1 hp hb
    generalize parts.toList = l
    induction l with
    | nil => rfl
    | cons p r ih => simp [ih]
  have h3 : ¬ len * size > 2 ^ 24 := by have := Nat.le_of_ble_eq_true hsm; omega
  have hB : ∀ ps : Array (Nat × Value), ps.toList = (parts.toList.map (·.1)).zip vs → (Instr.buildSlice t len ps).run P w = .ok (.slice (some ⟨w.heap.size, 0, none⟩) len len) (w.alloc (.cells cells el)) := by
    intro ps hps
    rw [fillB_eq] at hb
    rw [← hps] at hb
    by_cases h0 : len * size = 0
    · rw [h0] at hb
      simp only [Array.range_zero', Array.map_empty] at hb
      simp [Instr.buildSlice, run_underlying ht, sizeOf, typeInfo, hi, hj.2.1, h0, newRow]
      have h9 : (Array.map (fun _ : Nat => (default : Value)) (Array.range 0)) = #[] := by simp [Array.range_zero']
      rw [h9, hb]
      rfl
    · simp [Instr.buildSlice, run_underlying ht, sizeOf, typeInfo, zeroValue, hi, hj.1, hj.2.1, h0, newRow, hb, h3]
  have hrun : (execOp a.eval ⟨some d, .buildSlice t len parts, ty, pos, af, g⟩).run P w = .ok (.value (.slice (some ⟨w.heap.size, 0, none⟩) len len)) (w.alloc (.cells cells el)) := by
    simp only [execOp, Sem.run_bind]
    rw [hB _ h2]
    rfl
  simp only [Pw, Oper.wp, hrun, Oper.upon]
  exact h w.heap.size ho.size _ _ (hs.put_ hd _) (ho.alloc_ _ _ rfl rfl)
theorem r_bytes_str {x : Operand} {s d el : TypeId} {A : Option Addr} {m c : Nat} {ns : List Int} (hsrc : P.underlying s = some (.slice el)) (hel : P.underlying el = some (.int .u8)) (hdst : P.underlying d = some .string) (hx : ev e x = some (.slice A m c))
    (hr : ∀ w, S w → Rd w A m 1 (ns.map (Value.int .u8))) : Rig P n S e ⟨dst, .convert s d x, ty, pos, af, g⟩ (.string (strOfNums ns)) := fun ac w hs hS => by
  have hrw := hr w hS
  have hlen : ns.length = m := by have := hrw.1; simpa using this
  have hrun : (convert s d (.slice A m c)).run P w = .ok (.string (strOfNums ns)) w := by
    cases A with
    | none =>
      have hm : m = 0 := by
        rcases Nat.eq_zero_or_pos m with h | h
        · exact h
        · obtain ⟨_, h1⟩ := hrw.some_ h; cases h1
      have hn : ns = [] := List.eq_nil_of_length_eq_zero (by omega)
      rw [run_convert_bytes_nil w s el hsrc hel m c d hdst, hn]
      rfl
    | some a =>
      have hl : (loadCells a m).run P w = .ok (ns.map (Value.int .u8)).toArray w := by
        have := run_loadCells_list (P := P) w a (ns.map (Value.int .u8)) (fun i v hv => by
          have hi : i < m := by have := (List.getElem?_eq_some_iff.1 hv).1; simp at this; omega
          obtain ⟨ad, h1, _, h2⟩ := hrw.2.2 (by omega)
          injection h1 with h1
          subst h1
          exact h2 i v hv)
        simpa [hlen] using this
      have hb := run_bytesToString (P := P) w a m c ns hl
      simp only [convert, Sem.run_bind, run_underlying hsrc, run_underlying hdst, Result.andThen_ok, run_underlying hel, hb]
      rw [foldl_push_bytes]
      simp only [strOfNums, ByteArray.empty, ByteArray.emptyWithCapacity]
      congr 3
      simp
      rfl
  simp only [execOp, hs.ev_ hx, Sem.run_bind, hrun, Result.andThen_ok, Sem.run_pure]
theorem Own.rd_bl (h : Own w0 F L w) {i b bt : Nat} {cs : Array Value} {xs : List Value} {m size : Nat} (hi : L[i]? = some (bl b bt cs)) (hl : xs.length = m * size) (hm : m ≤ maxLen) (hx : cs.toList.take (m * size) = xs) : Rd w (some ⟨b, 0, none⟩) m size xs := by
  refine ⟨hl, hm, fun _ => ⟨_, rfl, h.lt_ (List.mem_of_getElem? hi) (b := b) rfl, fun j u hu => ?_⟩⟩
  rw [add_lit, h.cell_ hi, Nat.zero_add]
  have hj : j < m * size := by rw [← hl]; exact (List.getElem?_eq_some_iff.1 hu).1
  rw [← hx, List.getElem?_take_of_lt hj] at hu
  simpa using hu

/-! ### calls -/
theorem run_callFunc {f : FuncId} {args : Array Value} (hf : callB P f = true) : (callFunc f args).run P w = .ok (.enter f args) w := by
  unfold callB at hf
  cases hfn : P.funcs[f]? with
  | none => simp [hfn] at hf
  | some fn =>
    simp only [hfn, Bool.and_eq_true, Bool.not_eq_true'] at hf
    have h2 : fn.body.isNone = false := hf.2
    simp only [callFunc, Sem.run_bind, run_program, Result.andThen_ok, hfn, hf.1, h2, Bool.false_eq_true, if_false, Sem.run_pure]
theorem s_clos {d : Nat} {x : Operand} {args : Array Operand} {tys : Array TypeId} {f : FuncId} {first cap : Array Value} {vs : List Value} {R : World → Value → World → Prop} (hf : callB P f = true) (hx : ev e x = some (.func (.func f) first cap)) (ha : evs e args.toList = some vs) (hd : Nat.blt d n = true)
    (hc : ∀ w, Own w0 F L w → Calls P f (first ++ vs.toArray ++ cap) w fun en w' => ∃ v, en = .returned v ∧ R w v w')
    (h : ∀ w v w', Own w0 F L w → R w v w' → ∃ L', Own w0 F L' w' ∧ At n w0 F N ((d, v) :: e) L') :
    At n w0 F (Pw P ⟨some d, .call { callee := .value x, args := args, argTypes := tys }, ty, pos, af, g⟩ N Q) e L := by
  intro a w hs ho
  have hargs : args.map a.eval = vs.toArray := by
    apply Array.ext'
    simp [hs.evs_ ha]
  have hrun : (execOp a.eval ⟨some d, .call { callee := .value x, args := args, argTypes := tys }, ty, pos, af, g⟩).run P w = .ok (.enter f (first ++ vs.toArray ++ cap)) w := by
    simp only [execOp, resolve, hs.ev_ hx, hargs, Deferred.ofValue, Sem.run_bind, Sem.run_pure, Result.andThen_ok, invoke]
    exact run_callFunc hf
  simp only [Pw, Oper.wp, hrun, Oper.upon]
  refine (hc w ho).mono fun en w' hh => ?_
  obtain ⟨v, rfl, hR⟩ := hh
  obtain ⟨L', hL, hk⟩ := h w v w' ho hR
  exact hk _ _ (hs.put_ hd v) hL
theorem s_call {d : Nat} {args : Array Operand} {tys : Array TypeId} {f : FuncId} {vs : List Value} {R : World → Value → World → Prop} (hf : callB P f = true) (ha : evs e args.toList = some vs) (hd : Nat.blt d n = true)
    (hc : ∀ w, Own w0 F L w → Calls P f vs.toArray w fun en w' => ∃ v, en = .returned v ∧ R w v w')
    (h : ∀ w v w', Own w0 F L w → R w v w' → ∃ L', Own w0 F L' w' ∧ At n w0 F N ((d, v) :: e) L') :
    At n w0 F (Pw P ⟨some d, .call { callee := .value (.func f), args := args, argTypes := tys }, ty, pos, af, g⟩ N Q) e L :=
  s_clos (first := #[]) (cap := #[]) hf rfl ha hd (by simpa using hc) h
theorem s_clos0 {x : Operand} {args : Array Operand} {tys : Array TypeId} {f : FuncId} {first cap : Array Value} {vs : List Value} {R : World → Value → World → Prop} (hf : callB P f = true) (hx : ev e x = some (.func (.func f) first cap)) (ha : evs e args.toList = some vs)
    (hc : ∀ w, Own w0 F L w → Calls P f (first ++ vs.toArray ++ cap) w fun en w' => ∃ v, en = .returned v ∧ R w v w')
    (h : ∀ w v w', Own w0 F L w → R w v w' → ∃ L', Own w0 F L' w' ∧ At n w0 F N e L') :
    At n w0 F (Pw P ⟨none, .call { callee := .value x, args := args, argTypes := tys }, ty, pos, af, g⟩ N Q) e L := by
  intro a w hs ho
  have hargs : args.map a.eval = vs.toArray := by
    apply Array.ext'
    simp [hs.evs_ ha]
  have hrun : (execOp a.eval ⟨none, .call { callee := .value x, args := args, argTypes := tys }, ty, pos, af, g⟩).run P w = .ok (.enter f (first ++ vs.toArray ++ cap)) w := by
    simp only [execOp, resolve, hs.ev_ hx, hargs, Deferred.ofValue, Sem.run_bind, Sem.run_pure, Result.andThen_ok, invoke]
    exact run_callFunc hf
  simp only [Pw, Oper.wp, hrun, Oper.upon]
  refine (hc w ho).mono fun en w' hh => ?_
  obtain ⟨v, rfl, hR⟩ := hh
  obtain ⟨L', hL, hk⟩ := h w v w' ho hR
  exact hk _ _ hs hL
theorem s_call0 {args : Array Operand} {tys : Array TypeId} {f : FuncId} {vs : List Value} {R : World → Value → World → Prop} (hf : callB P f = true) (ha : evs e args.toList = some vs)
    (hc : ∀ w, Own w0 F L w → Calls P f vs.toArray w fun en w' => ∃ v, en = .returned v ∧ R w v w')
    (h : ∀ w v w', Own w0 F L w → R w v w' → ∃ L', Own w0 F L' w' ∧ At n w0 F N e L') :
    At n w0 F (Pw P ⟨none, .call { callee := .value (.func f), args := args, argTypes := tys }, ty, pos, af, g⟩ N Q) e L :=
  s_clos0 (first := #[]) (cap := #[]) hf rfl ha (by simpa using hc) h

/-! ### a function's begin and end -/
def argEnv : List Value → Nat → Env
  | [], _ => []
  | v :: r, i => (i, v) :: argEnv r (i + 1)
theorem argEnv_get : ∀ (vs : List Value) (i t : Nat) (v : Value), get (argEnv vs i) t = some v → i ≤ t ∧ vs[t - i]? = some v
  | [], _, _, _, h => by simp [argEnv, get] at h
  | u :: r, i, t, v, h => by
    simp only [argEnv, get] at h
    cases hb : Nat.beq i t with
    | true =>
      have : i = t := Nat.eq_of_beq_eq_true hb
      subst this
      rw [hb] at h
      simp only [cond_true, Option.some.injEq] at h
      subst h
      simp
    | false =>
      rw [hb] at h
      have hne : i ≠ t := Nat.ne_of_beq_eq_false hb
      obtain ⟨h1, h2⟩ := argEnv_get r (i + 1) t v h
      refine ⟨by omega, ?_⟩
      have : t - i = (t - (i + 1)) + 1 := by omega
      rw [this, List.getElem?_cons_succ]
      exact h2
def Kret (P : Program) (fn : Func) (R : Ending → World → Prop) : Cont := fun a w => a.defers = [] ∧ ∃ v, (results fn a.tmps).run P w = .ok v w ∧ R (.returned v) w
theorem fn_enterF {L0 : List Asn} (hO : Own w F L0 w) {f : FuncId} {fn : Func} {c : Code} {args : List Value} {R : Ending → World → Prop} (hf : P.funcs[f]? = some fn) (hb : fn.body = some c) (hn : fn.ntmps = n) (hle : Nat.ble args.length n = true)
    (h : At n w F (Cw P c (Qof (Kret P fn R) (Kret P fn R) [])) (argEnv args 0) L0) : Calls P f args.toArray w R := by
  subst hn
  have hle' : args.length ≤ fn.ntmps := by simpa using hle
  refine calls_of_wp hf hb (wp_mono (h _ w ⟨by simp; omega, rfl, fun t v ht => ?_⟩ hO) (fun ex a w q => ?_))
  · obtain ⟨_, h2⟩ := argEnv_get _ _ _ _ ht
    have hl : t < args.length := by
      rcases Nat.lt_or_ge t args.length with h | h
      · exact h
      · rw [List.getElem?_eq_none (by omega)] at h2; cases h2
    simp only [Nat.sub_zero] at h2
    rw [Array.getElem?_append_left (by simpa using hl)]
    simpa using h2
  · cases ex with
    | normal => exact q
    | ret => exact q
    | exit id => simp only [Qof, lk] at q
    | _ => exact q.elim
theorem fn_enter {f : FuncId} {fn : Func} {c : Code} {args : List Value} {R : Ending → World → Prop} (hf : P.funcs[f]? = some fn) (hb : fn.body = some c) (hn : fn.ntmps = n) (hle : Nat.ble args.length n = true)
    (h : At n w F (Cw P c (Qof (Kret P fn R) (Kret P fn R) [])) (argEnv args 0) []) : Calls P f args.toArray w R := fn_enterF (Own.refl_ w F) hf hb hn hle h
def ResOk (P : Program) (w0 : World) (F : List Nat) (e : Env) (L : List Asn) : ResultVar → Value → Prop
  | .tmp t, v => get e t = some v
  | .cell t T, v => ∃ a, get e t = some (.pointer (some a)) ∧ ∀ w, Own w0 F L w → (loadVar T a).run P w = .ok v w
def ResAll (P : Program) (w0 : World) (F : List Nat) (e : Env) (L : List Asn) : List ResultVar → List Value → Prop
  | [], [] => True
  | r :: rs, v :: vs => ResOk P w0 F e L r v ∧ ResAll P w0 F e L rs vs
  | _, _ => False
def resRun (tmps : Array Value) : ResultVar → Sem Value
  | .tmp t => pure (tmps.getD t undef)
  | .cell a t => do loadVar t (← asAddr (tmps.getD a undef))
theorem ResOk.run_ {a : Act} (hs : St n e a) (ho : Own w0 F L w) {r : ResultVar} {v : Value} (h : ResOk P w0 F e L r v) : (resRun a.tmps r).run P w = .ok v w := by
  cases r with
  | tmp t => simp [resRun, hs.agr t v h]
  | cell t T =>
    obtain ⟨ad, h1, h2⟩ := h
    simp [resRun, hs.agr t _ h1, asAddr, h2 w ho]
theorem ResAll.run_ {a : Act} (hs : St n e a) (ho : Own w0 F L w) : ∀ {rs : List ResultVar} {vs : List Value}, ResAll P w0 F e L rs vs → (rs.mapM (resRun a.tmps)).run P w = .ok vs w
  | [], [], _ => by simp
  | r :: rs, v :: vs, h => by
    simp [List.mapM_cons, h.1.run_ hs ho, ResAll.run_ hs ho h.2]
  | [], _ :: _, h => h.elim
  | _ :: _, [], h => h.elim
theorem results_run {a : Act} (hs : St n e a) (ho : Own w0 F L w) {fn : Func} {rs : List ResultVar} {vs : List Value} (hr : fn.results = rs.toArray) (h : ResAll P w0 F e L rs vs) :
    (results fn a.tmps).run P w = .ok (if h : vs.toArray.size = 1 then vs.toArray[0] else .tuple vs.toArray) w := by
  have h1 := h.run_ (a := a) hs ho
  have h2 : (rs.toArray.mapM (resRun a.tmps)).run P w = .ok vs.toArray w := by
    simp [h1]
  have h0 : results fn a.tmps = (do let vs ← fn.results.mapM (resRun a.tmps); pure (if h : vs.size = 1 then vs[0] else .tuple vs)) := rfl
  rw [h0, hr, Sem.run_bind, h2]
  rfl
theorem res_own {t T i b bt k : Nat} {cs : List Value} (hg : get e t = some (.pointer (some ⟨b, 0, none⟩))) (hi : L[i]? = some (bl b bt cs.toArray)) (ht : tyB P T true k = true) (hl : cs.length = k) : ResOk P w0 F e L (.cell t T) (.agg cs.toArray) :=
  ⟨_, hg, fun w hO => run_loadN ht hl fun j v hv => by rw [add_lit, hO.cell_ hi]; simpa using hv⟩
theorem x_ret1 {fn : Func} {R : Ending → World → Prop} {r : ResultVar} {v : Value} (hr : fn.results = #[r]) (h : ResOk P w0 F e L r v) (hR : ∀ w, Own w0 F L w → R (.returned v) w) : At n w0 F (Kret P fn R) e L :=
  fun a w hs ho => ⟨hs.defers, v, by simpa using results_run (a := a) hs ho (rs := [r]) (vs := [v]) hr ⟨h, trivial⟩, hR w ho⟩
theorem x_ret0 {fn : Func} {R : Ending → World → Prop} (hr : fn.results = #[]) (hR : ∀ w, Own w0 F L w → R (.returned (.tuple #[])) w) : At n w0 F (Kret P fn R) e L :=
  fun a w hs ho => ⟨hs.defers, _, by simpa using results_run (a := a) hs ho (rs := []) (vs := []) hr trivial, hR w ho⟩
theorem x_rets {fn : Func} {R : Ending → World → Prop} {r r' : ResultVar} {rs : List ResultVar} {v v' : Value} {vs : List Value} (hr : fn.results = (r :: r' :: rs).toArray) (h : ResAll P w0 F e L (r :: r' :: rs) (v :: v' :: vs)) (hR : ∀ w, Own w0 F L w → R (.returned (.tuple (v :: v' :: vs).toArray)) w) : At n w0 F (Kret P fn R) e L :=
  fun a w hs ho => ⟨hs.defers, _, by simpa using results_run (a := a) hs ho hr h, hR w ho⟩

/-! ### append -/
theorem Own.nilsl (h : Own w0 F L w) (el size : Nat) : Own w0 F (sl none 0 el size [] :: L) w :=
  ⟨h.os, h.tape, h.output, h.size, h.keep, fun x hx b hb => by
      rcases List.mem_cons.1 hx with rfl | hx
      · simp [sl] at hb
      · exact h.ok x hx b hb,
    fun x hx b hb => by
      rcases List.mem_cons.1 hx with rfl | hx
      · simp [sl] at hb
      · exact h.new x hx b hb, by rw [List.filterMap_cons_none (by simp [sl])]; exact h.nd⟩
theorem SlOk.nil_ (size : Nat) : SlOk none 0 0 size [] := ⟨by simp, by simp, by simp [maxLen], fun _ => ⟨rfl, rfl⟩, fun a h => by cases h⟩
theorem Own.owns (h : Own w0 F L w) {i : Nat} {A : Option Addr} {m cap el size : Nat} {xs : List Value} (hi : L[i]? = some (sl A cap el size xs)) (hk : SlOk A m cap size xs) : w.ownsRow 0 el size (.slice A m cap) m xs := by
  refine ⟨hk.1, ?_⟩
  cases A with
  | none =>
    obtain ⟨h1, h2⟩ := hk.2.2.2.1 rfl
    subst h1; subst h2
    exact .inl ⟨rfl, rfl⟩
  | some a =>
    obtain ⟨b, rfl⟩ := hk.2.2.2.2 a rfl
    obtain ⟨o, ho, cur, rfl, hsz, hc⟩ := h.ok (sl (some ⟨b, 0, none⟩) cap el size xs) (List.mem_of_getElem? hi) b (by simp [sl])
    refine .inr ⟨b, cap, cur, rfl, Nat.zero_le _, ho, hk.2.1, hk.2.2.1, hsz, ?_⟩
    apply List.ext_getElem?
    intro j
    have hlen : m * size ≤ cur.size := by rw [hsz]; exact Nat.mul_le_mul_right _ hk.2.1
    rcases Nat.lt_or_ge j (m * size) with hj | hj
    · have hx : xs[j]? = some (xs[j]'(by rw [hk.1]; exact hj)) := List.getElem?_eq_getElem _
      rw [List.getElem?_take_of_lt hj, hx]
      have := hc j _ hx
      simpa using this
    · rw [List.getElem?_eq_none (by simp; omega), List.getElem?_eq_none (by rw [hk.1]; exact hj)]
theorem Rd.reads {A : Option Addr} {m size : Nat} {xs : List Value} (h : Rd w A m size xs) : Wd.Reads w w.heap.size size A m xs :=
  ⟨h.1, fun hn => by obtain ⟨ad, e, hb, hc⟩ := h.2.2 hn; exact ⟨ad, e, hb, hc⟩⟩
/-- Behind an append to a slice of the call's own. -/
theorem Own.appended (h : Own w0 F L w) {i : Nat} {A : Option Addr} {m cap el size k : Nat} {xs news : List Value} (hi : L[i]? = some (sl A cap el size xs)) {v' : Value} {w' : World}
    (hown : w'.ownsRow 0 el size v' (m + k) (xs ++ news)) (hg : w.grownBy w' (Value.ownBlock (.slice A m cap))) (hat : v'.ownBlock = Value.ownBlock (.slice A m cap) ∨ v'.ownBlock = some w.heap.size) :
    ∃ A' cap', v' = .slice A' (m + k) cap' ∧ SlOk A' (m + k) cap' size (xs ++ news) ∧ Own w0 F (L.set i (sl A' cap' el size (xs ++ news))) w' ∧ w.heap.size ≤ w'.heap.size := by
  have hlen : (xs ++ news).length = (m + k) * size := hown.1
  have hx : sl A cap el size xs ∈ L := List.mem_of_getElem? hi
  have hlt : i < L.length := (List.getElem?_eq_some_iff.1 hi).1
  -- the block that may have been written: A's
  have hkeep : ∀ b, b < w.heap.size → (∀ a, A = some a → a.block ≠ b) → w'.heap[b]? = w.heap[b]? := fun b hb hne => hg.block b hb (fun e => by
    cases A with
    | none => simp [Value.ownBlock] at e
    | some a => exact hne a rfl (by simpa [Value.ownBlock] using e.symm))
  have mk : ∀ (A' : Option Addr) (cap' : Nat), (∀ a, A' = some a → ∃ b cur, a = ⟨b, 0, none⟩ ∧ w'.heap[b]? = some (.cells cur el (0, 0)) ∧ cur.size = cap' * size ∧ cur.toList.take ((m + k) * size) = xs ++ news ∧ ((∃ a0, A = some a0 ∧ a0.block = b) ∨ b = w.heap.size)) →
      Own w0 F (L.set i (sl A' cap' el size (xs ++ news))) w' := by
    intro A' cap' hA'
    refine ⟨hg.os.trans h.os, hg.tape.trans h.tape, hg.output.trans h.output, Nat.le_trans h.size hg.size, ?_, ?_, ?_, ?_⟩
    · intro b hb hbF
      rw [hkeep b (Nat.lt_of_lt_of_le hb h.size) (fun a ha e => by
        rcases h.new _ hx b (by simp [sl, ha, e]) with h1 | h1
        · omega
        · exact hbF h1)]
      exact h.keep b hb hbF
    · intro y hy b hyb
      obtain ⟨q, hq⟩ := List.mem_iff_getElem?.1 hy
      by_cases hiq : i = q
      · subst hiq
        rw [List.getElem?_set_self hlt] at hq
        injection hq with hq
        subst hq
        cases A' with
        | none => simp [sl] at hyb
        | some a =>
          obtain ⟨b', cur, rfl, hb', hcs, htake, _⟩ := hA' a rfl
          simp only [sl, Option.map_some, Option.some.injEq] at hyb
          subst hyb
          refine ⟨_, hb', cur, rfl, hcs, fun j u hu => ?_⟩
          have hjl : j < (m + k) * size := by rw [← hlen]; exact (List.getElem?_eq_some_iff.1 hu).1
          rw [← htake, List.getElem?_take_of_lt hjl] at hu
          simpa using hu
      · rw [List.getElem?_set_ne hiq] at hq
        obtain ⟨o, h2, h3⟩ := h.ok y (List.mem_of_getElem? hq) b hyb
        refine ⟨o, (hkeep b (h.lt_ (List.mem_of_getElem? hq) hyb) (fun a ha e => hiq (nd_at h.nd hi hq (by simp [sl, ha, e]) hyb))).trans h2, h3⟩
    · intro y hy b hyb
      obtain ⟨q, hq⟩ := List.mem_iff_getElem?.1 hy
      by_cases hiq : i = q
      · subst hiq
        rw [List.getElem?_set_self hlt] at hq
        injection hq with hq
        subst hq
        cases A' with
        | none => simp [sl] at hyb
        | some a =>
          obtain ⟨b', cur, rfl, hb', hcs, htake, hw⟩ := hA' a rfl
          simp only [sl, Option.map_some, Option.some.injEq] at hyb
          subst hyb
          rcases hw with ⟨a0, ha0, rfl⟩ | rfl
          · exact h.new _ hx _ (by simp [sl, ha0])
          · exact .inl h.size
      · rw [List.getElem?_set_ne hiq] at hq
        exact h.new y (List.mem_of_getElem? hq) b hyb
    · -- no two name one block
      have hnd : ∀ (K : List Asn), (∀ (i j : Nat) (x y : Asn) (b : Nat), K[i]? = some x → K[j]? = some y → x.blk = some b → y.blk = some b → i = j) → (K.filterMap (·.blk)).Nodup := by
        intro K
        induction K with
        | nil => intro _; simp
        | cons x K ih =>
          intro hh
          have ih' := ih (fun i j a c b h1 h2 h3 h4 => by have := hh (i + 1) (j + 1) a c b (by simpa using h1) (by simpa using h2) h3 h4; omega)
          cases hb : x.blk with
          | none => rw [List.filterMap_cons_none hb]; exact ih'
          | some b =>
            rw [List.filterMap_cons_some hb]
            refine List.nodup_cons.2 ⟨fun hm => ?_, ih'⟩
            obtain ⟨y, hy, hyb⟩ := List.mem_filterMap.1 hm
            obtain ⟨j, hj⟩ := List.mem_iff_getElem?.1 hy
            have := hh 0 (j + 1) x y b (by simp) (by simpa using hj) hb hyb
            omega
      refine hnd _ (fun p q x y b hp hq hxb hyb => ?_)
      have side : ∀ (q : Nat) (y : Asn), i ≠ q → L[q]? = some y → y.blk = some b → (sl A' cap' el size (xs ++ news)).blk = some b → False := by
        intro q' y' hiq' hq' hyb' hb
        cases A' with
        | none => simp [sl] at hb
        | some a =>
          obtain ⟨b', cur, rfl, hb', hcs, htake, hw⟩ := hA' a rfl
          simp only [sl, Option.map_some, Option.some.injEq] at hb
          subst hb
          rcases hw with ⟨a0, ha0, rfl⟩ | rfl
          · exact hiq' (nd_at h.nd hi hq' (by simp [sl, ha0]) hyb')
          · exact Nat.lt_irrefl _ (h.lt_ (List.mem_of_getElem? hq') hyb')
      by_cases hip : i = p
      · subst hip
        rw [List.getElem?_set_self hlt] at hp
        injection hp with hp
        subst hp
        by_cases hiq : i = q
        · exact hiq
        · rw [List.getElem?_set_ne hiq] at hq
          exact (side q y hiq hq hyb hxb).elim
      · rw [List.getElem?_set_ne hip] at hp
        by_cases hiq : i = q
        · subst hiq
          rw [List.getElem?_set_self hlt] at hq
          injection hq with hq
          subst hq
          exact (side p x hip hp hxb hyb).elim
        · rw [List.getElem?_set_ne hiq] at hq
          exact nd_at h.nd hp hq hxb hyb
  rcases hown.2 with ⟨rfl, hmk⟩ | ⟨b, cap', cur, rfl, _, hb, hle, hmax, hcs, htake⟩
  · have hxn : xs ++ news = [] := List.eq_nil_of_length_eq_zero (by rw [hlen, hmk]; simp)
    refine ⟨none, 0, by rw [hmk], ?_, mk none 0 (fun a h => by cases h), hg.size⟩
    rw [hxn, hmk]
    exact SlOk.nil_ size
  · refine ⟨some ⟨b, 0, none⟩, cap', rfl, ⟨hlen, hle, hmax, fun h => (by cases h), fun a h => (by injection h with h; exact ⟨b, h.symm⟩)⟩, mk _ _ (fun a ha => ?_), hg.size⟩
    injection ha with ha
    subst ha
    refine ⟨b, cur, rfl, hb, hcs, htake, ?_⟩
    rcases hat with hat | hat
    · left
      cases A with
      | none => simp [Value.ownBlock] at hat
      | some a => exact ⟨a, rfl, by simpa [Value.ownBlock] using hat.symm⟩
    · right
      simpa [Value.ownBlock] using hat
theorem Own.append_ (h : Own w0 F L w) {i : Nat} {A : Option Addr} {m cap el size bytes t ty : Nat} {z : Value} {xs : List Value} (ht : P.underlying t = some (.slice el)) (hel : (P.info? el).map (fun i => (i.zero, i.size, i.bytes)) = some (some z, size, bytes)) (hz : z.cells.size = size) (hs0 : 0 < size)
    (hi : L[i]? = some (sl A cap el size xs)) (hk : SlOk A m cap size xs) {B : Option Addr} {k c : Nat} {news : List Value} (hr : Rd w B k size news) (h1 : ∀ u ∈ news, u.oneCell' = true) (hm : m + k ≤ maxLen) (hby : (m + k) * bytes ≤ 140737488355328) :
    ∃ A' cap' w', (Builtin.append_ #[t, t] ty #[.slice A m cap, .slice B k c]).run P w = .ok (.slice A' (m + k) cap') w' ∧ SlOk A' (m + k) cap' size (xs ++ news) ∧ Own w0 F (L.set i (sl A' cap' el size (xs ++ news))) w' ∧ w.heap.size ≤ w'.heap.size := by
  obtain ⟨j, hinfo, hj⟩ := Option.map_eq_some_iff.1 hel
  simp only [Prod.mk.injEq] at hj
  obtain ⟨v', w', hrun, hown, hg, hat⟩ := Wd.run_append_any (P := P) w 0 t ty el j z size bytes ht hinfo hj.1 hj.2.1 hj.2.2 hz hs0 (.slice A m cap) m xs (h.owns hi hk) w.heap.size B k c news hr.reads h1 hm hby (Nat.zero_le _)
  obtain ⟨A', cap', rfl, h2, h3, h4⟩ := h.appended hi hown hg hat
  exact ⟨A', cap', w', hrun, h2, h3, h4⟩
theorem s_append {d : Nat} {x y : Operand} {i t el size bytes m cap k c : Nat} {A B : Option Addr} {z : Value} {xs news : List Value} (ht : P.underlying t = some (.slice el)) (hel : (P.info? el).map (fun i => (i.zero, i.size, i.bytes)) = some (some z, size, bytes)) (hz : z.cells.size = size) (hs0 : 0 < size)
    (hx : ev e x = some (.slice A m cap)) (hy : ev e y = some (.slice B k c)) (hd : Nat.blt d n = true) (hi : L[i]? = some (sl A cap el size xs)) (hk : SlOk A m cap size xs) (hr : ∀ w, Own w0 F L w → Rd w B k size news) (h1 : ∀ u ∈ news, u.oneCell' = true) (hm : m + k ≤ maxLen) (hby : (m + k) * bytes ≤ 140737488355328)
    (h : ∀ A' cap', SlOk A' (m + k) cap' size (xs ++ news) → At n w0 F N ((d, .slice A' (m + k) cap') :: e) (L.set i (sl A' cap' el size (xs ++ news)))) :
    At n w0 F (Pw P ⟨some d, .call { callee := .builtin .append, args := #[x, y], argTypes := #[t, t] }, ty, pos, af, g⟩ N Q) e L := by
  intro a w hs ho
  obtain ⟨A', cap', w', hrun, hok, hO, _⟩ := ho.append_ (P := P) (ty := ty) ht hel hz hs0 hi hk (c := c) (hr w ho) h1 hm hby
  have hrun' : (execOp a.eval ⟨some d, .call { callee := .builtin .append, args := #[x, y], argTypes := #[t, t] }, ty, pos, af, g⟩).run P w = .ok (.value (.slice A' (m + k) cap')) w' := by
    simp only [execOp, resolve, invoke, builtin, Sem.run_bind, Sem.run_pure, Result.andThen_ok, List.map_toArray, List.map_cons, List.map_nil, hs.ev_ hx, hs.ev_ hy, hrun]
  simp only [Pw, Oper.wp, hrun', Oper.upon]
  exact h A' cap' hok _ _ (hs.put_ hd _) hO
end
section
variable {P : Program} {n : Nat} {w0 : World} {F : List Nat} {e : Env} {L : List Asn} {Q : Exit → Act → World → Prop} {N : Cont} {S : World → Prop} {o : Oper} {v : Value}
theorem At.mk_ (h : ∀ a w, St n e a → Own w0 F L w → N a w) : At n w0 F N e L := h
theorem At.go_ (h : At n w0 F N e L) {a : Act} {w : World} (hs : St n e a) (ho : Own w0 F L w) : N a w := h a w hs ho
theorem Rig.mk_ (h : ∀ a w, St n e a → S w → (execOp a.eval o).run P w = .ok (.value v) w) : Rig P n S e o v := h
theorem Pw.mk_ (h : ∀ a w, St n e a → Own w0 F L w → o.wp P a w N Q) : At n w0 F (Pw P o N Q) e L := h
end
attribute [irreducible] At Cw Ow Pw Aw Iw Bw Rw Tw Kret Rig
end Go.Proofs.YtlpoepmipbegaaaDoor.En
