/- The engine, third part: strings.Builder's own words; append where there is room. -/
import Derived.Test.YtlpoepmipbegaaaDoorE2
set_option linter.unusedVariables false
set_option linter.unusedSimpArgs false
namespace Go.Proofs.YtlpoepmipbegaaaDoor.En
open Go Go.RowKit
section
variable {P : Program} {n : Nat} {w0 : World} {F : List Nat} {e : Env} {L : List Asn} {Q : Exit → Act → World → Prop} {N : Cont} {S : World → Prop} {o : Oper} {v : Value} {dst : Option Tmp} {ty : TypeId} {pos : String} {af : Array Edge} {g : Option (Nat × Bool)}
theorem run_eql_ptr_nil (w : World) {tp te : TypeId} (p : Option Addr) (hp : P.underlying tp = some (.pointer te)) : (binOp .eql tp (.pointer p) (.pointer none)).run P w = .ok (.bool p.isNone) w := by
  have h : ∀ d : Nat, (Op.equalIn (d + 1) tp (.pointer p) (.pointer none)).run P w = .ok p.isNone w := fun d => by
    cases p <;> simp [Op.equalIn, run_underlying hp]
  simp only [binOp]
  simp [Op.equal, Op.maxDepth, h 9999]
theorem r_eql_ptr_nil {x y : Operand} {t te yt : TypeId} {p : Option Addr} {r : Bool} (ht : P.underlying t = some (.pointer te)) (hx : ev e x = some (.pointer p)) (hy : ev e y = some (.pointer none)) (h : p.isNone = r) :
    Rig P n S e ⟨dst, .binOp .eql t x y yt, ty, pos, af, g⟩ (.bool r) := Rig.mk_ fun ac w hs _ => by
  subst h
  simp only [execOp, hs.ev_ hx, hs.ev_ hy]
  simp [go_sem, run_eql_ptr_nil w p ht]
theorem r_neq_ptr_same {x y : Operand} {t te yt : TypeId} {a : Addr} {z : Option Value} {sz bytes : Nat} (ht : P.underlying t = some (.pointer te)) (hel : (P.info? te).map (fun i => (i.zero, i.size, i.bytes)) = some (z, sz, bytes)) (hx : ev e x = some (.pointer (some a))) (hy : ev e y = some (.pointer (some a))) :
    Rig P n S e ⟨dst, .binOp .neq t x y yt, ty, pos, af, g⟩ (.bool false) := Rig.mk_ fun ac w hs _ => by
  obtain ⟨j, hi, hj⟩ := Option.map_eq_some_iff.1 hel
  simp only [execOp, hs.ev_ hx, hs.ev_ hy]
  simp [go_sem, Lib.run_neq_ptr_same w a ht hi]
/-- *T to unsafe.Pointer, at a block of the call's own. -/
theorem r_to_unsafe {x : Operand} {s d t b bt sz bytes i : Nat} {cs : Array Value} {z : Option Value} (hs' : P.underlying s = some (.pointer t)) (hd : P.underlying d = some .unsafePointer) (hel : (P.info? t).map (fun i => (i.zero, i.size, i.bytes)) = some (z, sz + 1, bytes))
    (hx : ev e x = some (.pointer (some ⟨b, 0, none⟩))) (hi : L[i]? = some (bl b bt cs)) (h0 : Nat.blt 0 cs.size = true) : Rig P n (Own w0 F L) e ⟨dst, .convert s d x, ty, pos, af, g⟩ (.pointer (some ⟨b, 0, none⟩)) := Rig.mk_ fun ac w hs ho => by
  obtain ⟨o, hg, rfl⟩ := ho.ok _ (List.mem_of_getElem? hi) b rfl
  obtain ⟨j, hj, hjj⟩ := Option.map_eq_some_iff.1 hel
  simp only [Prod.mk.injEq] at hjj
  have h0' : 0 < cs.size := by simpa using h0
  have hr := Lib.run_to_unsafe (P := P) w ⟨b, 0, none⟩ hs' hd hj (by omega) (e := bt) (cells := cs.size) (by simp [World.shape?, hg]) h0'
  simp only [execOp, hs.ev_ hx, Sem.run_bind, hr, Result.andThen_ok, Sem.run_pure]
def liesB (P : Program) (t cells u : Nat) : Bool := liesAt P P.depth t (cells / P.cellsOf t) 0 u 1
theorem r_from_unsafe {x : Operand} {s d u b bt i m : Nat} {cs : Array Value} (hs' : P.underlying s = some .unsafePointer) (hd : P.underlying d = some (.pointer u)) (hel : (P.info? u).isSome = true)
    (hx : ev e x = some (.pointer (some ⟨b, 0, none⟩))) (hi : L[i]? = some (bl b bt cs)) (hm : cs.size = m) (h0 : liesB P bt m u = true) : Rig P n (Own w0 F L) e ⟨dst, .convert s d x, ty, pos, af, g⟩ (.pointer (some ⟨b, 0, none⟩)) := Rig.mk_ fun ac w hs ho => by
  obtain ⟨o, hg, rfl⟩ := ho.ok _ (List.mem_of_getElem? hi) b rfl
  obtain ⟨j, hj⟩ := Option.isSome_iff_exists.1 hel
  subst hm
  have hr := Lib.run_from_unsafe (P := P) w ⟨b, 0, none⟩ hs' hd hj (e := bt) (cells := cs.size) (by simp [World.shape?, hg]) h0
  simp only [execOp, hs.ev_ hx, Sem.run_bind, hr, Result.andThen_ok, Sem.run_pure]
/-- internal/abi.NoEscape, a function of no body. -/
theorem r_noEscape {x : Operand} {f : FuncId} {fn : Func} {tys : Array TypeId} (hf : P.funcs[f]? = some fn) (hname : (fn.name == "runtime.NumGoroutine") = false) (hb : fn.body.isNone = true) (hn : Extern.findNext fn = none) (he : Extern.find fn = some Extern.AbiNoEscape.same) (hx : ev e x = some v) :
    Rig P n S e ⟨dst, .call { callee := .value (.func f), args := #[x], argTypes := tys }, ty, pos, af, g⟩ v := Rig.mk_ fun ac w hs _ => by
  have hr := run_callFunc_extern (P := P) hf hname hb hn he #[v] w
  rw [Lib.run_noEscape] at hr
  simp only [Result.andThen_ok] at hr
  have hfx : ac.eval (.func f) = .func (.func f) #[] #[] := hs.ev_ (x := .func f) rfl
  simp only [execOp, resolve, Deferred.ofValue, invoke, Sem.run_bind, Sem.run_pure, Result.andThen_ok, List.map_toArray, List.map_cons, List.map_nil, hs.ev_ hx, hfx, Array.empty_append, Array.append_empty]
  exact hr
/-- An append for which there is room, to a block whose cells are all known. -/
theorem s_append_room {d : Nat} {x y : Operand} {i t el size bytes b m cap k c : Nat} {B : Option Addr} {z : Value} {cs : Array Value} {news : List Value} (ht : P.underlying t = some (.slice el)) (hel : (P.info? el).map (fun i => (i.zero, i.size, i.bytes)) = some (some z, size, bytes))
    (hx : ev e x = some (.slice (some ⟨b, 0, none⟩) m cap)) (hy : ev e y = some (.slice B k c)) (hd : Nat.blt d n = true) (hi : L[i]? = some (bl b el cs)) (hcs : cs.size = cap * size) (hr : ∀ w, Own w0 F L w → Rd w B k size news) (h1 : ∀ u ∈ news, u.oneCell' = true) (hm : m + k ≤ cap)
    (h : At n w0 F N ((d, .slice (some ⟨b, 0, none⟩) (m + k) cap) :: e) (L.set i (bl b el (put_ cs (m * size) news)))) :
    At n w0 F (Pw P ⟨some d, .call { callee := .builtin .append, args := #[x, y], argTypes := #[t, t] }, ty, pos, af, g⟩ N Q) e L := by
  refine Pw.mk_ fun a w hs ho => ?_
  obtain ⟨j, hinfo, hj⟩ := Option.map_eq_some_iff.1 hel
  simp only [Prod.mk.injEq] at hj
  obtain ⟨hz, hsz, hby⟩ := hj
  subst hsz; subst hby
  obtain ⟨o, hg, rfl⟩ := ho.ok _ (List.mem_of_getElem? hi) b rfl
  have hrd := hr w ho
  have hnl : news.length = k * j.size := hrd.1
  have hfit : m * j.size + news.length ≤ cs.size := by rw [hnl, hcs, ← Nat.add_mul]; exact Nat.mul_le_mul_right _ hm
  have hst := run_storeCells_at P b (m * j.size) el news 0 cs w hg (by simpa using hfit) h1
  simp only [Nat.add_zero] at hst
  have hfc : (Builtin.firstCells j.size k (.slice B k c)).run P w = .ok news.toArray w := by
    cases B with
    | none =>
      have hk0 : k = 0 := by
        rcases Nat.eq_zero_or_pos k with h0 | h0
        · exact h0
        · obtain ⟨_, h2⟩ := hrd.some_ h0; cases h2
      subst hk0
      have : news = [] := List.eq_nil_of_length_eq_zero (by simpa using hnl)
      subst this
      exact run_firstCells_none w j.size 0 0 c
    | some ad => exact run_firstCells_some w j.size k ad k c news hnl (fun q u hu => by
        have hk0 : 0 < k := by
          rcases Nat.eq_zero_or_pos k with h0 | h0
          · subst h0; have : news = [] := List.eq_nil_of_length_eq_zero (by simpa using hnl); subst this; simp at hu
          · exact h0
        obtain ⟨ad', h2, _, h3⟩ := hrd.2.2 hk0
        injection h2 with h2
        subst h2
        exact h3 q u hu)
  have hrun : (Builtin.append_ #[t, t] ty #[.slice (some ⟨b, 0, none⟩) m cap, .slice B k c]).run P w = .ok (.slice (some ⟨b, 0, none⟩) (m + k) cap) (w.setRow b (put_ cs (m * j.size) news)) := by
    simp [Builtin.append_, run_underlying ht, sizeOf, typeInfo, hinfo, Builtin.lenOf, hm, hfc, Addr.add_lit, hst, put_]
  have hrun' : (execOp a.eval ⟨some d, .call { callee := .builtin .append, args := #[x, y], argTypes := #[t, t] }, ty, pos, af, g⟩).run P w = .ok (.value (.slice (some ⟨b, 0, none⟩) (m + k) cap)) (w.setRow b (put_ cs (m * j.size) news)) := by
    simp only [execOp, resolve, invoke, builtin, Sem.run_bind, Sem.run_pure, Result.andThen_ok, List.map_toArray, List.map_cons, List.map_nil, hs.ev_ hx, hs.ev_ hy, hrun]
  simp only [Oper.wp, hrun', Oper.upon]
  exact h.go_ (hs.put_ hd _) (ho.row_ hi)
/-- A block of the call's own of which no more is known. -/
def anyA (b : Nat) : Asn := ⟨some b, fun _ => True⟩
def u8s (l : List UInt8) : List Value := l.map fun b => Value.int .u8 b.toNat
theorem r_sliceData {x : Operand} {t : TypeId} {a : Addr} {m c : Nat} (hx : ev e x = some (.slice (some a) m c)) (hc : c ≠ 0) : Rig P n S e ⟨dst, .call { callee := .builtin .unsafeSliceData, args := #[x], argTypes := #[t] }, ty, pos, af, g⟩ (.pointer (some a)) := Rig.mk_ fun ac w hs _ => by
  have hr : (Builtin.unsafeSliceData_ #[t] ty #[.slice (some a) m c]).run P w = .ok (.pointer (some a)) w := Lib.run_unsafeSliceData_row _ _ _ _ _ _ hc
  simp only [execOp, resolve, invoke, builtin, Sem.run_bind, Sem.run_pure, Result.andThen_ok, List.map_toArray, List.map_cons, List.map_nil, hs.ev_ hx, hr]
theorem s_unsafeStr {d : Nat} {x y : Operand} {i t it el b cap : Nat} {l : List UInt8} (ht : P.underlying t = some (.pointer el)) (hc : (P.cellsOf el == 1) = true) (hx : ev e x = some (.pointer (some ⟨b, 0, none⟩))) (hy : ev e y = some (.int .i64 (l.length : Int))) (hd : Nat.blt d n = true)
    (hi : L[i]? = some (sl (some ⟨b, 0, none⟩) cap el 1 (u8s l))) (h0 : l ≠ []) (hn : l.length ≤ cap) (hm : cap ≤ maxLen) (h : At n w0 F N ((d, .string ⟨l.toArray⟩) :: e) (L.set i (anyA b))) :
    At n w0 F (Pw P ⟨some d, .call { callee := .builtin .unsafeString, args := #[x, y], argTypes := #[t, it] }, ty, pos, af, g⟩ N Q) e L := by
  refine Pw.mk_ fun a w hs ho => ?_
  obtain ⟨o, hg, cur, rfl, hsz, hcell⟩ := ho.ok (sl (some ⟨b, 0, none⟩) cap el 1 (u8s l)) (List.mem_of_getElem? hi) b (by simp [sl])
  have hc' : P.cellsOf el = 1 := by simpa using hc
  have hr := Lib.run_unsafeString_row (P := P) w t it ty el ht hc' b cur.size (by simp [World.shape?, hg]) l h0 (by omega) (by simp only [maxLen] at hm; omega) (fun j x' hx' => by
    rw [add_lit, Nat.zero_add]
    have := hcell j (.int .u8 x'.toNat) (by simp [u8s, hx'])
    simpa [World.cell?, hg] using this)
  have hrun' : (execOp a.eval ⟨some d, .call { callee := .builtin .unsafeString, args := #[x, y], argTypes := #[t, it] }, ty, pos, af, g⟩).run P w = .ok (.value (.string ⟨l.toArray⟩)) (w.freeze ⟨b, 0, none⟩ l.length) := by
    simp only [execOp, resolve, invoke, builtin, Sem.run_bind, Sem.run_pure, Result.andThen_ok, List.map_toArray, List.map_cons, List.map_nil, hs.ev_ hx, hs.ev_ hy, hr]
  simp only [Oper.wp, hrun', Oper.upon]
  have hl0 : l.length ≠ 0 := by simpa using h0
  refine h.go_ (hs.put_ hd _) (ho.write_ (g := b) (y := anyA b) (o := .cells cur el (0, l.length)) hi (by simp [sl]) (by simp [sl, anyA]) ?_ ?_ ?_ ?_ ?_ trivial (fun c hcb => ?_))
  · simp [World.freeze, hl0]
  · simp [World.freeze, hl0]
  · simp [World.freeze, hl0]
  · simp [World.freeze, hl0]
  · simp [World.freeze, hl0, Array.getElem?_modify, hg]
  · simp only [World.freeze, hl0, if_false, Array.getElem?_modify]
    rw [if_neg (fun hh => hcb hh.symm)]
theorem made_u8 (k : Nat) : madeCells (Value.int .u8 0).cells k = (u8s (List.replicate k 0)).toArray := by
  apply Array.ext'
  apply List.ext_getElem?
  intro i
  by_cases h : i < k
  · simp [madeCells, u8s, h, Value.cells, Nat.mod_one]
  · simp [madeCells, u8s, h]
/-- make([]byte, k): k zeros. -/
theorem s_makeBytes {d : Nat} {x y : Operand} {t el : TypeId} {kl kc : IntKind} {c : Int} (k : Nat) (ht : P.underlying t = some (.slice el)) (hel : (P.info? el).map (fun i => (i.zero, i.size, i.bytes)) = some (some (.int .u8 0), 1, 1))
    (hx : ev e x = some (.int kl c)) (hy : ev e y = some (.int kc c)) (hd : Nat.blt d n = true) (hc : c = (k : Int)) (hk : k ≤ 140737488355328)
    (h : ∀ b, w0.heap.size ≤ b → At n w0 F N ((d, .slice (some ⟨b, 0, none⟩) k k) :: e) (bl b el (u8s (List.replicate k 0)).toArray :: L)) : At n w0 F (Pw P ⟨some d, .makeSlice t x y, ty, pos, af, g⟩ N Q) e L := by
  subst hc
  refine s_makeSlice ht hel hx hy hd ⟨by omega, Int.le_refl _⟩ ⟨by omega, by omega⟩ fun b hb => ?_
  rw [made_u8, Int.toNat_natCast, Nat.mul_one]
  exact h b hb
end
end Go.Proofs.YtlpoepmipbegaaaDoor.En
