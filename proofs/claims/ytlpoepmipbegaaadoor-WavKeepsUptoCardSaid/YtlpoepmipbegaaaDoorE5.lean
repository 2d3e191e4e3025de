/- The engine, fifth part: slices of bytes of the call's own; append of bytes, of a string, of noughts. -/
import Derived.Test.YtlpoepmipbegaaaDoorE4
import Derived.Lib.AppendZerosOnto
set_option linter.unusedVariables false
set_option linter.unusedSimpArgs false
namespace Go.Proofs.YtlpoepmipbegaaaDoor.En
open Go Go.RowKit
theorem zero_extract (m : Nat) : (Array.replicate m (Value.int .u8 0)) = Builtin.zeroCells #[.int .u8 0] m := by
  apply Array.ext'
  apply List.ext_getElem?
  intro i
  by_cases h : i < m
  · simp [Builtin.zeroCells, h, Nat.mod_one]
  · simp [Builtin.zeroCells, h]
theorem run_append_zeros_eq {P : Program} (w : World) (t tn u ty e : TypeId) (i : TypeInfo) (kn kq : IntKind) (ht : P.underlying t = some (.slice e)) (htn : P.underlying tn = some (.int kn)) (hu : P.underlying u = some .string) (hi : P.info? e = some i) (hz : i.zero = some (.int .u8 0)) (hsize : i.size = 1) (hby : i.bytes = 1)
    (A : Option Addr) (n cap m : Nat) (hcap : n ≤ cap) (hm : n + m ≤ 140737488355328) : (Builtin.append_ #[t, tn] ty #[.slice A n cap, .int kq m]).run P w = (Builtin.append_ #[t, u] ty #[.slice A n cap, .string ⟨Array.replicate m 0⟩]).run P w := by
  have hw : IntKind.i64.wrap (m : Int) = m := by rw [IntKind.wrap_i64]; omega
  have hneg : ¬ ((m : Int) < 0) := by omega
  have h1 : ¬ (281474976710656 < (m : Int)) := by omega
  have hs : ByteArray.size ⟨Array.replicate m 0⟩ = m := by simp [ByteArray.size]
  have hx := zero_extract m
  have h63 : ¬ (9223372036854775807 < (n : Int) + (m : Int)) := by omega
  have hl : (Builtin.zeroCells #[Value.int .u8 0] m).toList = List.replicate m (Value.int .u8 0) := by rw [← hx]; simp
  have hw0 : IntKind.i64.wrap 0 = 0 := rfl
  by_cases h0 : m = 0
  · subst h0
    have hs0 : ByteArray.size ⟨#[]⟩ = 0 := rfl
    simp [Builtin.append_, run_underlying ht, run_underlying htn, run_underlying hu, sizeOf, typeInfo, zeroValue, hi, hz, hsize, hby, asInt, asIntOf, Builtin.lenOf, Builtin.firstCells, hw0, hs0, hcap]
  · by_cases hr : n + m ≤ cap
    · simp [Builtin.append_, run_underlying ht, run_underlying htn, run_underlying hu, sizeOf, typeInfo, zeroValue, hi, hz, hsize, hby, asInt, asIntOf, hw, hneg, h1, Builtin.lenOf, Builtin.firstCells, hs, hr, h0, Value.cells, hl]
    · have hf : ¬ (281474976710656 < Builtin.nextslicecap (n + m) cap) := by
        have := growslice_fits (need := n + m) (old := cap) (bytes := 1) (by omega) (by omega)
        omega
      simp [Builtin.append_, run_underlying ht, run_underlying htn, run_underlying hu, sizeOf, typeInfo, zeroValue, hi, hz, hsize, hby, asInt, asIntOf, hw, hneg, h1, Builtin.lenOf, Builtin.firstCells, hs, hr, h0, hf, h63, Value.cells, hx]

theorem u8s_app (a b : List UInt8) : u8s (a ++ b) = u8s a ++ u8s b := by simp [u8s]
theorem u8s_len (l : List UInt8) : (u8s l).length = l.length := List.length_map _
theorem u8s_one (l : List UInt8) : ∀ u ∈ u8s l, u.oneCell' = true := fun u hu => by obtain ⟨_, _, rfl⟩ := List.mem_map.1 hu; rfl
theorem u8s_str (s : ByteArray) : Lib.strCells s = u8s s.data.toList := rfl
/-- Bytes in a slice of the call's own. -/
abbrev SB (el : Nat) (A : Option Addr) (cap : Nat) (l : List UInt8) : Asn := sl A cap el 1 (u8s l)
theorem Own.rd_any {w w' : World} {F : List Nat} {L : List Asn} (h : Own w F L w') {A : Option Addr} {n size : Nat} {xs : List Value} (hr : Rd w A n size xs) (hF : 0 < n → ∀ a, A = some a → a.block ∉ F) : Rd w' A n size xs := by
  rcases Nat.eq_zero_or_pos n with h0 | h0
  · subst h0
    have hx : xs = [] := List.eq_nil_of_length_eq_zero (by simpa using hr.1)
    subst hx
    exact Rd.nil_ w' A size
  · exact h.rd_old hr (hF h0)
/-- Two slices of the call's own lie apart; so do old memory and one of them. -/
theorem Own.sl_apart {w0 w : World} {F : List Nat} {L : List Asn} (h : Own w0 F L w) {i j : Nat} {A B : Option Addr} {c c' el el' s s' : Nat} {xs ys : List Value} (hi : L[i]? = some (sl A c el s xs)) (hj : L[j]? = some (sl B c' el' s' ys)) (hij : i ≠ j) : ∀ a, B = some a → a.block ∉ fb [sl A c el s xs] := by
  intro a ha hm
  subst ha
  obtain ⟨x, hx, hb⟩ := List.mem_filterMap.1 hm
  obtain rfl := List.mem_singleton.1 hx
  exact hij (nd_at h.nd hi hj hb (by simp [sl]))
theorem Own.old_apart {w0 w : World} {L : List Asn} (h : Own w0 [] L w) {i : Nat} {A D : Option Addr} {c el s n : Nat} {xs ys : List Value} {size : Nat} (hi : L[i]? = some (sl A c el s xs)) (hr : Rd w0 D n size ys) : 0 < n → ∀ a, D = some a → a.block ∉ fb [sl A c el s xs] := by
  intro hn a ha hm
  obtain ⟨ad, e, hlt, _⟩ := hr.2.2 hn
  rw [ha] at e
  injection e with e
  subst e
  obtain ⟨x, hx, hb⟩ := List.mem_filterMap.1 hm
  obtain rfl := List.mem_singleton.1 hx
  rcases h.new _ (List.mem_of_getElem? hi) _ hb with h1 | h1
  · omega
  · cases h1
abbrev BOk (A : Option Addr) (cap : Nat) (l : List UInt8) : Prop := SlOk A l.length cap 1 (u8s l)
section
variable {P : Program} {n : Nat} {w0 : World} {F : List Nat} {e : Env} {L : List Asn} {Q : Exit → Act → World → Prop} {N : Cont} {ty : TypeId} {pos : String} {af : Array Edge} {g : Option (Nat × Bool)}
theorem s_appB {d : Nat} {x y : Operand} {i t el cap c : Nat} {A B : Option Addr} {l z : List UInt8} (ht : P.underlying t = some (.slice el)) (hel : (P.info? el).map (fun i => (i.zero, i.size, i.bytes)) = some (some (.int .u8 0), 1, 1))
    (hx : ev e x = some (.slice A l.length cap)) (hy : ev e y = some (.slice B z.length c)) (hd : Nat.blt d n = true) (hi : L[i]? = some (SB el A cap l)) (hk : BOk A cap l) (hr : ∀ w, Own w0 F L w → Rd w B z.length 1 (u8s z)) (hm : l.length + z.length ≤ 140737488355328)
    (h : ∀ A' cap', BOk A' cap' (l ++ z) → At n w0 F N ((d, .slice A' (l ++ z).length cap') :: e) (L.set i (SB el A' cap' (l ++ z)))) :
    At n w0 F (Pw P ⟨some d, .call { callee := .builtin .append, args := #[x, y], argTypes := #[t, t] }, ty, pos, af, g⟩ N Q) e L := by
  refine s_append (news := u8s z) ht hel rfl (by omega) hx hy hd hi hk hr (u8s_one z) (by simp only [maxLen]; omega) (by omega) fun A' cap' hk' => ?_
  have := h A' cap'
  simp only [BOk, SB, u8s_app, List.length_append] at this
  exact this hk'
theorem s_appS {d : Nat} {x y : Operand} {i t u el cap : Nat} {A : Option Addr} {l : List UInt8} {s : ByteArray} (ht : P.underlying t = some (.slice el)) (hu : P.underlying u = some .string) (hel : (P.info? el).map (fun i => (i.zero, i.size, i.bytes)) = some (some (.int .u8 0), 1, 1))
    (hx : ev e x = some (.slice A l.length cap)) (hy : ev e y = some (.string s)) (hd : Nat.blt d n = true) (hi : L[i]? = some (SB el A cap l)) (hk : BOk A cap l) (hm : l.length + s.size ≤ 140737488355328)
    (h : ∀ A' cap', BOk A' cap' (l ++ s.data.toList) → At n w0 F N ((d, .slice A' (l ++ s.data.toList).length cap') :: e) (L.set i (SB el A' cap' (l ++ s.data.toList)))) :
    At n w0 F (Pw P ⟨some d, .call { callee := .builtin .append, args := #[x, y], argTypes := #[t, u] }, ty, pos, af, g⟩ N Q) e L := by
  refine s_append_str ht hu hel hx hy hd hi hk hm fun A' cap' hk' => ?_
  have := h A' cap'
  have hs : s.data.toList.length = s.size := Array.length_toList
  simp only [BOk, SB, u8s_app, List.length_append, hs] at this
  exact this hk'
theorem s_appZ {d : Nat} {x y : Operand} {i t tn u el cap m : Nat} {kn kq : IntKind} {A : Option Addr} {l : List UInt8} {c : Int} (ht : P.underlying t = some (.slice el)) (htn : P.underlying tn = some (.int kn)) (hu : P.underlying u = some .string) (hel : (P.info? el).map (fun i => (i.zero, i.size, i.bytes)) = some (some (.int .u8 0), 1, 1))
    (hx : ev e x = some (.slice A l.length cap)) (hy : ev e y = some (.int kq c)) (hd : Nat.blt d n = true) (hi : L[i]? = some (SB el A cap l)) (hk : BOk A cap l) (hc : c = (m : Int)) (hm : l.length + m ≤ 140737488355328)
    (h : ∀ A' cap', BOk A' cap' (l ++ List.replicate m 0) → At n w0 F N ((d, .slice A' (l ++ List.replicate m 0).length cap') :: e) (L.set i (SB el A' cap' (l ++ List.replicate m 0)))) :
    At n w0 F (Pw P ⟨some d, .call { callee := .builtin .append, args := #[x, y], argTypes := #[t, tn] }, ty, pos, af, g⟩ N Q) e L := by
  subst hc
  refine Pw.mk_ fun a w hs ho => ?_
  obtain ⟨j, hinfo, hj⟩ := Option.map_eq_some_iff.1 hel
  simp only [Prod.mk.injEq] at hj
  have hz : ByteArray.size ⟨Array.replicate m 0⟩ = m := by simp [ByteArray.size]
  obtain ⟨v', w', hrun, hown, hg, hat⟩ := run_append_str (P := P) w t u ty el j ht hu hinfo hj.1 hj.2.1 hj.2.2 (.slice A l.length cap) l.length (u8s l) (ho.owns hi hk) ⟨Array.replicate m 0⟩ (by simp only [maxLen]; omega) (by omega)
  rw [← run_append_zeros_eq (P := P) w t tn u ty el j kn kq ht htn hu hinfo hj.1 hj.2.1 hj.2.2 A l.length cap m hk.2.1 hm] at hrun
  obtain ⟨A', cap', rfl, hok, hO, _⟩ := ho.appended hi hown hg hat
  have hrun' : (execOp a.eval ⟨some d, .call { callee := .builtin .append, args := #[x, y], argTypes := #[t, tn] }, ty, pos, af, g⟩).run P w = .ok (.value (.slice A' (l.length + ByteArray.size ⟨Array.replicate m 0⟩) cap')) w' := by
    simp only [execOp, resolve, invoke, builtin, Sem.run_bind, Sem.run_pure, Result.andThen_ok, List.map_toArray, List.map_cons, List.map_nil, hs.ev_ hx, hs.ev_ hy, hrun]
  simp only [Oper.wp, hrun', Oper.upon]
  have h1 : Lib.strCells ⟨Array.replicate m 0⟩ = u8s (List.replicate m 0) := by rw [u8s_str]; simp
  rw [hz, h1] at hok
  rw [h1] at hO
  rw [hz]
  have := h A' cap'
  simp only [BOk, SB, u8s_app, List.length_append, List.length_replicate] at this
  exact (this hok).go_ (hs.put_ hd _) hO
end
end Go.Proofs.YtlpoepmipbegaaaDoor.En
