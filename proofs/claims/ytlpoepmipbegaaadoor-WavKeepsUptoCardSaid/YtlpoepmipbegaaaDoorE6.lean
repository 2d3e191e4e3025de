/- The engine, sixth part: a literal turned to bytes (its row is marked behind its end), append onto a full slice that is not the call's own. -/
import Derived.Test.YtlpoepmipbegaaaDoorE5
set_option linter.unusedVariables false
set_option linter.unusedSimpArgs false
namespace Go.Proofs.YtlpoepmipbegaaaDoor.En
open Go Go.RowKit
section
variable {P : Program} {n : Nat} {w0 w : World} {F : List Nat} {e : Env} {L : List Asn} {Q : Exit → Act → World → Prop} {N : Cont} {ty : TypeId} {pos : String} {af : Array Edge} {g : Option (Nat × Bool)}
/-- Bytes of a row of the call's own, wherever its mark lies: only read. -/
def roB (b el : Nat) (l : List UInt8) : Asn := ⟨some b, fun o => ∃ fr, o = .cells (u8s l).toArray el fr⟩
theorem Own.rd_ro (h : Own w0 F L w) {i b el : Nat} {l : List UInt8} (hi : L[i]? = some (roB b el l)) (hm : l.length ≤ maxLen) : Rd w (some ⟨b, 0, none⟩) l.length 1 (u8s l) := by
  have hx := List.mem_of_getElem? hi
  obtain ⟨o, hg, fr, rfl⟩ := h.ok _ hx b rfl
  refine ⟨by rw [u8s_len, Nat.mul_one], hm, fun _ => ⟨_, rfl, h.lt_ hx rfl, fun j u hu => ?_⟩⟩
  rw [add_lit, Nat.zero_add]
  simp only [World.cell?, hg]
  simpa using hu
/-- []byte("..") of a literal: the row is marked behind its end. -/
theorem s_stringish {d : Nat} {x : Operand} {i t el b m c : Nat} {l : List UInt8} (ht : P.underlying t = some (.slice el)) (hel : P.underlying el = some (.int .u8)) (hx : ev e x = some (.slice (some ⟨b, 0, none⟩) m c)) (hd : Nat.blt d n = true) (hi : L[i]? = some (bl b el (u8s l).toArray))
    (h : At n w0 F N ((d, .slice (some ⟨b, 0, none⟩) m c) :: e) (L.set i (roB b el l))) : At n w0 F (Pw P ⟨some d, .convert t t x, ty, pos, af, g⟩ N Q) e L := by
  refine Pw.mk_ fun a w hs ho => ?_
  obtain ⟨o, hg, rfl⟩ := ho.ok _ (List.mem_of_getElem? hi) b rfl
  have hrun : (execOp a.eval ⟨some d, .convert t t x, ty, pos, af, g⟩).run P w = .ok (.value (.slice (some ⟨b, 0, none⟩) m c)) (w.freeze ⟨b, (u8s l).toArray.size, none⟩ 1) := by
    simp [execOp, hs.ev_ hx, convert, run_underlying ht, run_underlying hel, markStringish, World.shape?, hg]
  simp only [Oper.wp, hrun, Oper.upon]
  refine h.go_ (hs.put_ hd _) (ho.write_ (g := b) (y := roB b el l) (o := .cells (u8s l).toArray el ((u8s l).toArray.size, (u8s l).toArray.size + 1)) hi rfl rfl ?_ ?_ ?_ ?_ ?_ ⟨_, rfl⟩ (fun c hcb => ?_))
  · simp [World.freeze]
  · simp [World.freeze]
  · simp [World.freeze]
  · simp [World.freeze]
  · simp [World.freeze, Array.getElem?_modify, hg]
  · simp only [World.freeze, Array.getElem?_modify]
    rw [if_neg (by decide)]
    simp only [Array.getElem?_modify]
    rw [if_neg (fun hh => hcb hh.symm)]
theorem Own.newSB (h : Own w0 F L w) {el cap : Nat} {l : List UInt8} {cs : Array Value} (hs : cs.size = cap) (hx : ∀ (j : Nat) (u : Value), (u8s l)[j]? = some u → cs[j]? = some u) : Own w0 F (SB el (some ⟨w.heap.size, 0, none⟩) cap l :: L) (w.alloc (.cells cs el)) :=
  (h.alloc_ (bl w.heap.size el cs) _ rfl rfl).blsl (by simpa using hs) hx
theorem grown_cells (l z : List UInt8) (k : Nat) (zs : Array Value) : ∀ (j : Nat) (u : Value), (u8s (l ++ z))[j]? = some u → ((u8s l).toArray ++ (u8s z).toArray ++ zs)[j]? = some u := by
  intro j u hu
  have hj : j < (u8s (l ++ z)).length := (List.getElem?_eq_some_iff.1 hu).1
  rw [u8s_app] at hu hj
  rw [Array.getElem?_append_left (by simpa using hj)]
  simpa using hu
theorem s_appB_full {d : Nat} {x y : Operand} {t el c : Nat} {A B : Option Addr} {l z : List UInt8} (ht : P.underlying t = some (.slice el)) (hel : (P.info? el).map (fun i => (i.zero, i.size, i.bytes)) = some (some (.int .u8 0), 1, 1))
    (hx : ev e x = some (.slice A l.length l.length)) (hA : ∀ w, Own w0 F L w → Rd w A l.length 1 (u8s l)) (hl : 0 < l.length) (hy : ev e y = some (.slice B z.length c)) (hz : 0 < z.length) (hr : ∀ w, Own w0 F L w → Rd w B z.length 1 (u8s z)) (hd : Nat.blt d n = true) (hm : l.length + z.length ≤ 140737488355328)
    (h : ∀ A' cap', BOk A' cap' (l ++ z) → At n w0 F N ((d, .slice A' (l ++ z).length cap') :: e) (SB el A' cap' (l ++ z) :: L)) :
    At n w0 F (Pw P ⟨some d, .call { callee := .builtin .append, args := #[x, y], argTypes := #[t, t] }, ty, pos, af, g⟩ N Q) e L := by
  refine Pw.mk_ fun a w hs ho => ?_
  obtain ⟨j, hinfo, hj⟩ := Option.map_eq_some_iff.1 hel
  simp only [Prod.mk.injEq] at hj
  obtain ⟨a1, rfl, _, hc1⟩ := (hA w ho).2.2 hl
  obtain ⟨a2, rfl, _, hc2⟩ := (hr w ho).2.2 hz
  have hrun := run_append_grow (P := P) w t ty el j (.int .u8 0) ht hinfo hj.1 a1 l.length l.length (u8s l) (by rw [hj.2.1, u8s_len, Nat.mul_one]) hc1 a2 z.length c (u8s z) (by rw [hj.2.1, u8s_len, Nat.mul_one]) hc2 (by omega) (by omega) (by rw [hj.2.2]; exact growslice_fits (by omega) (by omega))
  have hge := grownCap_ge w (l.length + z.length) l.length el
  have hle := grownCap_le_maxLen w (l.length + z.length) l.length el (by simp only [maxLen]; omega)
  have hrun' : (execOp a.eval ⟨some d, .call { callee := .builtin .append, args := #[x, y], argTypes := #[t, t] }, ty, pos, af, g⟩).run P w = .ok (.value (.slice (some ⟨w.heap.size, 0, none⟩) (l.length + z.length) (grownCap w (l.length + z.length) l.length el))) (w.drew.alloc (.cells ((u8s l).toArray ++ (u8s z).toArray ++ Builtin.zeroCells (Value.int .u8 0).cells (grownCap w (l.length + z.length) l.length el - (l.length + z.length))) el)) := by
    simp only [execOp, resolve, invoke, builtin, Sem.run_bind, Sem.run_pure, Result.andThen_ok, List.map_toArray, List.map_cons, List.map_nil, hs.ev_ hx, hs.ev_ hy, hrun]
  simp only [Oper.wp, hrun', Oper.upon]
  have hlen : (l ++ z).length = l.length + z.length := List.length_append
  have hk : BOk (some ⟨w.heap.size, 0, none⟩) (grownCap w (l.length + z.length) l.length el) (l ++ z) := SlOk.made (by rw [u8s_len, Nat.mul_one]) (by rw [hlen]; exact hge) hle
  have hh := h _ _ hk
  rw [hlen] at hh
  refine hh.go_ (hs.put_ hd _) ((ho.drew_).newSB ?_ (grown_cells l z 0 _))
  simp [Builtin.zeroCells, Value.cells, u8s]
  omega
theorem s_appS_full {d : Nat} {x y : Operand} {t u el : Nat} {A : Option Addr} {l : List UInt8} {s : ByteArray} (ht : P.underlying t = some (.slice el)) (hu : P.underlying u = some .string) (hel : (P.info? el).map (fun i => (i.zero, i.size, i.bytes)) = some (some (.int .u8 0), 1, 1))
    (hx : ev e x = some (.slice A l.length l.length)) (hA : ∀ w, Own w0 F L w → Rd w A l.length 1 (u8s l)) (hl : 0 < l.length) (hy : ev e y = some (.string s)) (hz : 0 < s.size) (hd : Nat.blt d n = true) (hm : l.length + s.size ≤ 140737488355328)
    (h : ∀ A' cap', BOk A' cap' (l ++ s.data.toList) → At n w0 F N ((d, .slice A' (l ++ s.data.toList).length cap') :: e) (SB el A' cap' (l ++ s.data.toList) :: L)) :
    At n w0 F (Pw P ⟨some d, .call { callee := .builtin .append, args := #[x, y], argTypes := #[t, u] }, ty, pos, af, g⟩ N Q) e L := by
  refine Pw.mk_ fun a w hs ho => ?_
  obtain ⟨j, hinfo, hj⟩ := Option.map_eq_some_iff.1 hel
  simp only [Prod.mk.injEq] at hj
  obtain ⟨a1, rfl, _, hc1⟩ := (hA w ho).2.2 hl
  have hsz : s.data.toList.length = s.size := Array.length_toList
  have hrun := Lib.run_append_grow_string (P := P) w t u ty el j (.int .u8 0) ht hu hinfo hj.1 a1 l.length l.length (u8s l) (by rw [hj.2.1, u8s_len, Nat.mul_one]) hc1 s (by omega) (by omega) (by rw [hj.2.2]; exact growslice_fits (by omega) (by omega))
  have hge := grownCap_ge w (l.length + s.size) l.length el
  have hle := grownCap_le_maxLen w (l.length + s.size) l.length el (by simp only [maxLen]; omega)
  rw [u8s_str] at hrun
  have hrun' : (execOp a.eval ⟨some d, .call { callee := .builtin .append, args := #[x, y], argTypes := #[t, u] }, ty, pos, af, g⟩).run P w = .ok (.value (.slice (some ⟨w.heap.size, 0, none⟩) (l.length + s.size) (grownCap w (l.length + s.size) l.length el))) (w.drew.alloc (.cells ((u8s l).toArray ++ (u8s s.data.toList).toArray ++ Builtin.zeroCells (Value.int .u8 0).cells (grownCap w (l.length + s.size) l.length el - (l.length + s.size))) el)) := by
    simp only [execOp, resolve, invoke, builtin, Sem.run_bind, Sem.run_pure, Result.andThen_ok, List.map_toArray, List.map_cons, List.map_nil, hs.ev_ hx, hs.ev_ hy, hrun]
  simp only [Oper.wp, hrun', Oper.upon]
  have hlen : (l ++ s.data.toList).length = l.length + s.size := by rw [List.length_append, hsz]
  have hk : BOk (some ⟨w.heap.size, 0, none⟩) (grownCap w (l.length + s.size) l.length el) (l ++ s.data.toList) := SlOk.made (by rw [u8s_len, Nat.mul_one]) (by rw [hlen]; exact hge) hle
  have hh := h _ _ hk
  rw [hlen] at hh
  refine hh.go_ (hs.put_ hd _) ((ho.drew_).newSB ?_ (grown_cells l s.data.toList 0 _))
  have h9 : (u8s s.data.toList).length = s.size := by rw [u8s_len, hsz]
  simp [Builtin.zeroCells, Value.cells, u8s_len]
  omega
end
end Go.Proofs.YtlpoepmipbegaaaDoor.En
