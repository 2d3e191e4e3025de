/- The engine, second part: calls that write into blocks of the caller's own, make, append of a string, strings.Builder's own words. -/
import Derived.Test.YtlpoepmipbegaaaDoorTy
import Derived.Lib.AppendStr
import Derived.Lib.Builder
import Derived.Lib.UnsafeStr
import Derived.Laws.MakeOwn
import Derived.Laws.Externs
set_option linter.unusedVariables false
set_option linter.unusedSimpArgs false
namespace Go.Proofs.YtlpoepmipbegaaaDoor.En
open Go Go.RowKit
/-- The blocks that are spoken of. -/
def fb (L : List Asn) : List Nat := L.filterMap (·.blk)
section
variable {w0 w w' : World} {F F' : List Nat} {L L' : List Asn}
/-- What a callee is handed of it. -/
theorem Own.sub_ (h : Own w0 F L w) (is : List Nat) (hn : is.Nodup) : Own w (fb (pick L is)) (pick L is) w :=
  ⟨rfl, rfl, rfl, Nat.le_refl _, fun _ _ _ => rfl, (h.pick_ is hn).ok, fun x hx b hb => .inr (List.mem_filterMap.2 ⟨x, hx, hb⟩), (h.pick_ is hn).nd⟩
/-- Behind a callee that was handed the blocks js: the blocks is are as they were. -/
theorem Own.swap_ (h : Own w0 F L w) (js is : List Nat) (hn : (js ++ is).Nodup) (h' : Own w (fb (pick L js)) L' w') : Own w0 F (L' ++ pick L is) w' := by
  have hn' := List.nodup_append.1 hn
  refine h.call_ h' is hn'.2.1 (fun b hb => ?_) (fun x hx b hb hm => ?_)
  · obtain ⟨x, hx, hxb⟩ := List.mem_filterMap.1 hb
    exact ((h.pick_ js hn'.1).new x hx b hxb).symm
  · obtain ⟨y, hy, hyb⟩ := List.mem_filterMap.1 hm
    obtain ⟨i, hi, e1⟩ := mem_pick hx
    obtain ⟨j, hj, e2⟩ := mem_pick hy
    have := nd_at h.nd e1 e2 hb hyb
    exact hn'.2.2 j hj i hi this.symm
end
section
variable {P : Program} {n : Nat} {w0 : World} {F : List Nat} {e : Env} {L : List Asn} {Q : Exit → Act → World → Prop} {N : Cont} {S : World → Prop} {o : Oper} {v : Value} {dst : Option Tmp} {ty : TypeId} {pos : String} {af : Array Edge} {g : Option (Nat × Bool)}
theorem r_neq_bool {x y : Operand} {t yt : TypeId} {a b r : Bool} (ht : P.underlying t = some .bool) (hx : ev e x = some (.bool a)) (hy : ev e y = some (.bool b)) (h : (!(a == b)) = r) :
    Rig P n S e ⟨dst, .binOp .neq t x y yt, ty, pos, af, g⟩ (.bool r) := Rig.mk_ fun c w hs _ => by
  subst h; simp only [execOp, hs.ev_ hx, hs.ev_ hy]; simp [go_sem, run_neq_bool w t a b ht]
theorem r_eql_bool {x y : Operand} {t yt : TypeId} {a b r : Bool} (ht : P.underlying t = some .bool) (hx : ev e x = some (.bool a)) (hy : ev e y = some (.bool b)) (h : (a == b) = r) :
    Rig P n S e ⟨dst, .binOp .eql t x y yt, ty, pos, af, g⟩ (.bool r) := Rig.mk_ fun c w hs _ => by
  subst h; simp only [execOp, hs.ev_ hx, hs.ev_ hy]; simp [go_sem, run_eql_bool w t a b ht]
theorem r_nilCheck {x : Operand} {a : Addr} (hx : ev e x = some (.pointer (some a))) : Rig P n S e ⟨dst, .nilCheck x, ty, pos, af, g⟩ (.pointer (some a)) := Rig.mk_ fun c w hs _ => by
  simp only [execOp, hs.ev_ hx]
  rfl
theorem s_makeSlice {d : Nat} {x y : Operand} {t el size bytes : Nat} {z : Value} {kl kc : IntKind} {l c : Int} (ht : P.underlying t = some (.slice el)) (hel : (P.info? el).map (fun i => (i.zero, i.size, i.bytes)) = some (some z, size, bytes))
    (hx : ev e x = some (.int kl l)) (hy : ev e y = some (.int kc c)) (hd : Nat.blt d n = true) (h0 : 0 ≤ l ∧ l ≤ c) (hb : (bytes : Int) * c ≤ 281474976710656 ∧ c ≤ 9223372036854775807)
    (h : ∀ b, w0.heap.size ≤ b → At n w0 F N ((d, .slice (some ⟨b, 0, none⟩) l.toNat c.toNat) :: e) (bl b el (madeCells z.cells (c.toNat * size)) :: L)) : At n w0 F (Pw P ⟨some d, .makeSlice t x y, ty, pos, af, g⟩ N Q) e L := by
  refine Pw.mk_ fun a w hs ho => ?_
  obtain ⟨j, hi, hj⟩ := Option.map_eq_some_iff.1 hel
  simp only [Prod.mk.injEq] at hj
  obtain ⟨hz, hsz, hby⟩ := hj
  subst hsz; subst hby
  have hm := run_make (P := P) w t el j z ht hi hz kl kc l c h0.1 h0.2 hb.1 hb.2
  have hrun : (execOp a.eval ⟨some d, .makeSlice t x y, ty, pos, af, g⟩).run P w = .ok (.value (.slice (some ⟨w.heap.size, 0, none⟩) l.toNat c.toNat)) (w.alloc (.cells (madeCells z.cells (c.toNat * j.size)) el)) := by
    simp only [execOp, hs.ev_ hx, hs.ev_ hy, Sem.run_bind, hm, Result.andThen_ok, Sem.run_pure]
  simp only [Oper.wp, hrun, Oper.upon]
  exact (h w.heap.size ho.size).go_ (hs.put_ hd _) (ho.alloc_ _ _ rfl rfl)
/-- A string's bytes behind a slice of the call's own. -/
theorem run_append_str (w : World) (t u ty e : TypeId) (i : TypeInfo) (ht : P.underlying t = some (.slice e)) (hu : P.underlying u = some .string) (hi : P.info? e = some i) (hz : i.zero = some (.int .u8 0)) (hsize : i.size = 1) (hby : i.bytes = 1)
    (v : Value) (n : Nat) (xs : List Value) (hown : w.ownsRow 0 e 1 v n xs) (s : ByteArray) (h63 : n + s.size ≤ maxLen) (hbytes : n + s.size ≤ 140737488355328) :
    ∃ v' w', (Builtin.append_ #[t, u] ty #[v, .string s]).run P w = .ok v' w' ∧ w'.ownsRow 0 e 1 v' (n + s.size) (xs ++ Lib.strCells s) ∧ w.grownBy w' v.ownBlock ∧ (v'.ownBlock = v.ownBlock ∨ v'.ownBlock = some w.heap.size) := by
  obtain ⟨v', w', h1, h2, h3, h4⟩ := Lib.run_append_own_string (P := P) w 0 t u ty e i ht hu hi hz hsize hby v n xs hown s h63 hbytes (Nat.zero_le _)
  refine ⟨v', w', h1, h2, h3, ?_⟩
  have hxl : xs.length = n := by simpa using hown.1
  have hsmall : n + s.size ≤ 9223372036854775807 := by simp only [maxLen] at h63; omega
  rcases hown.2 with ⟨rfl, rfl⟩ | ⟨g, cap, cur, rfl, hbg, hg, hnc, hcm, hcs, htake⟩
  · by_cases hm : s.size = 0
    · rw [h4.2 ⟨rfl, hm⟩]
      exact .inl rfl
    · have hr := run_append_nil_string (P := P) w t u ty e i (.int .u8 0) ht hu hi hz s (by omega) (by omega) (by rw [hby]; omega)
      rw [h1] at hr
      injection hr with hv hw
      rw [hv]
      exact .inr rfl
  · by_cases hroom : n + s.size ≤ cap
    · have hr := Lib.run_append_room_string (P := P) w t u ty e i ht hu hi hsize g n cap cur hg s hroom (by omega)
      rw [h1] at hr
      injection hr with hv hw
      rw [hv]
      exact .inl rfl
    · have holds : ∀ j u, xs[j]? = some u → w.cell? ((⟨g, 0, none⟩ : Addr).add j) = some u := hown.cells (g := g) rfl
      have hr := Lib.run_append_grow_string (P := P) w t u ty e i (.int .u8 0) ht hu hi hz ⟨g, 0, none⟩ n cap xs (by rw [hsize]; simpa using hxl) holds s (by omega) (by omega) (by rw [hby]; exact growslice_fits (by omega) (by omega))
      rw [h1] at hr
      injection hr with hv hw
      rw [hv]
      exact .inr rfl
theorem s_append_str {d : Nat} {x y : Operand} {i t u el m cap : Nat} {A : Option Addr} {xs : List Value} {s : ByteArray} (ht : P.underlying t = some (.slice el)) (hu : P.underlying u = some .string) (hel : (P.info? el).map (fun i => (i.zero, i.size, i.bytes)) = some (some (.int .u8 0), 1, 1))
    (hx : ev e x = some (.slice A m cap)) (hy : ev e y = some (.string s)) (hd : Nat.blt d n = true) (hi : L[i]? = some (sl A cap el 1 xs)) (hk : SlOk A m cap 1 xs) (hm : m + s.size ≤ 140737488355328)
    (h : ∀ A' cap', SlOk A' (m + s.size) cap' 1 (xs ++ Lib.strCells s) → At n w0 F N ((d, .slice A' (m + s.size) cap') :: e) (L.set i (sl A' cap' el 1 (xs ++ Lib.strCells s)))) :
    At n w0 F (Pw P ⟨some d, .call { callee := .builtin .append, args := #[x, y], argTypes := #[t, u] }, ty, pos, af, g⟩ N Q) e L := by
  refine Pw.mk_ fun a w hs ho => ?_
  obtain ⟨j, hinfo, hj⟩ := Option.map_eq_some_iff.1 hel
  simp only [Prod.mk.injEq] at hj
  obtain ⟨v', w', hrun, hown, hg, hat⟩ := run_append_str (P := P) w t u ty el j ht hu hinfo hj.1 hj.2.1 hj.2.2 (.slice A m cap) m xs (ho.owns hi hk) s (by simp only [maxLen]; omega) hm
  obtain ⟨A', cap', rfl, hok, hO, _⟩ := ho.appended hi hown hg hat
  have hrun' : (execOp a.eval ⟨some d, .call { callee := .builtin .append, args := #[x, y], argTypes := #[t, u] }, ty, pos, af, g⟩).run P w = .ok (.value (.slice A' (m + s.size) cap')) w' := by
    simp only [execOp, resolve, invoke, builtin, Sem.run_bind, Sem.run_pure, Result.andThen_ok, List.map_toArray, List.map_cons, List.map_nil, hs.ev_ hx, hs.ev_ hy, hrun]
  simp only [Oper.wp, hrun', Oper.upon]
  exact (h A' cap' hok).go_ (hs.put_ hd _) hO
end
end Go.Proofs.YtlpoepmipbegaaaDoor.En
