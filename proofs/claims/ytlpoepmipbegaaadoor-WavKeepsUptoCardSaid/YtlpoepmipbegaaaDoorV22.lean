/- What the law's walk wants: a slice with a bound, bytes with room behind them, stores that nobody reads. -/
import Derived.Test.YtlpoepmipbegaaaDoorV21
set_option linter.unusedVariables false
set_option linter.unusedSimpArgs false
namespace Go.Proofs.YtlpoepmipbegaaaDoor.Wv
open Go Go.RowKit Go.Proofs.YtlpoepmipbegaaaDoor.En
section
variable {P : Program} {n : Nat} {w0 w : World} {F : List Nat} {e : Env} {L : List Asn} {Q : Exit → Act → World → Prop} {N : Cont} {S : World → Prop} {dst : Option Nat} {ty : TypeId} {pos : String} {af : Array Edge} {g : Option (Nat × Bool)}
theorem r_slice_himax {x y z' : Operand} {t el : TypeId} {A : Option Addr} {m c size bytes i j : Nat} {z : Value} {k k' : IntKind} (ht : P.underlying t = some (.slice el)) (hel : (P.info? el).map (fun i => (i.zero, i.size, i.bytes)) = some (some z, size, bytes))
    (hx : ev e x = some (.slice A m c)) (hy : ev e y = some (.int k (i : Int))) (hz : ev e z' = some (.int k' (j : Int))) (h : i ≤ j ∧ j ≤ c) :
    Rig P n S e ⟨dst, .slice t x none (some y) (some z'), ty, pos, af, g⟩ (.slice A i j) := Rig.mk_ fun ac w hs _ => by
  obtain ⟨q, hi, hj⟩ := Option.map_eq_some_iff.1 hel
  simp only [Prod.mk.injEq] at hj
  have h1 := h.1
  have h2 := h.2
  have e0 : (if j = 0 then A else A.map (·.add 0)) = A := by split <;> cases A <;> simp [Addr.add]
  simp [execOp, hs.ev_ hx, hs.ev_ hy, hs.ev_ hz, Instr.sliceAt, Instr.slice, Instr.sliceBounds, Instr.sliceBound, run_underlying ht, asIntOf, sizeOf, typeInfo, hi, hj.2.1, h1, h2, e0]
theorem forget_ok {A : Option Addr} {cap el size : Nat} {xs : List Value} {o : Obj} (h : (sl A cap el size xs).ok o) : (sl A cap el size []).ok o := by
  obtain ⟨cur, h1, h2, h3⟩ := h
  exact ⟨cur, h1, h2, fun j u hu => by simp at hu⟩
theorem Own.forget (h : Own w0 F L w) {i : Nat} {A : Option Addr} {cap el size : Nat} {xs : List Value} (hi : L[i]? = some (sl A cap el size xs)) : Own w0 F (L.set i (sl A cap el size [])) w := by
  have hl : (L.set i (sl A cap el size [])).map (·.blk) = L.map (·.blk) := by
    apply List.ext_getElem?
    intro j
    simp only [List.getElem?_map, List.getElem?_set]
    by_cases hj : i = j
    · subst hj
      have hlt := (List.getElem?_eq_some_iff.1 hi).1
      simp only [hlt, if_true, hi, Option.map_some]
      rfl
    · simp only [if_neg hj]
  refine h.weak_ hl (fun j x y hx hy o ho => ?_)
  rw [List.getElem?_set] at hy
  by_cases hj : i = j
  · subst hj
    have hlt := (List.getElem?_eq_some_iff.1 hi).1
    simp only [hlt, if_true] at hy
    obtain rfl : sl A cap el size [] = y := by injection hy
    rw [hi] at hx
    obtain rfl : sl A cap el size xs = x := by injection hx
    exact forget_ok ho
  · rw [if_neg hj, hx] at hy
    obtain rfl : x = y := by injection hy
    exact ho
/-- A store into memory of the call's own whose cells nobody wants to know. -/
theorem s_storeSl {x y : Operand} {t i b k el m cap size : Nat} {v : Value} {agg : Bool} (ht : tyB P t agg m = true) (hx : ev e x = some (.pointer (some (Addr.add ⟨b, 0, none⟩ k)))) (hy : ev e y = some v) (hi : L[i]? = some (sl (some ⟨b, 0, none⟩) cap el size [])) (hm : v.cells.size = m) (hk : k + m ≤ cap * size)
    (h1 : v.cells.toList.all (·.oneCell') = true) (h : At n w0 F N e L) : At n w0 F (Pw P ⟨none, .store t x y, ty, pos, af, g⟩ N Q) e L := by
  refine Pw.mk_ fun a w hs ho => ?_
  obtain ⟨o, hg, cur, rfl, hsz, hc⟩ := ho.ok (sl (some ⟨b, 0, none⟩) cap el size []) (List.mem_of_getElem? hi) b (by simp [sl])
  rw [add_lit, Nat.zero_add] at hx
  have hl : v.cells.toList.length = m := by simpa using hm
  have hst := run_store_at (P := P) (b := b) (bt := el) ht hm hg (k := k) (by omega) (fun u hu => List.all_eq_true.1 h1 u hu)
  have hrun : (execOp a.eval ⟨none, .store t x y, ty, pos, af, g⟩).run P w = .ok .skip (w.setRow b (put_ cur k v.cells.toList)) := by
    simp [execOp, hs.ev_ hx, hs.ev_ hy, hst]
  simp only [Oper.wp, hrun, Oper.upon]
  have hset : L.set i (sl (some ⟨b, 0, none⟩) cap el size []) = L := by
    apply List.ext_getElem?
    intro j
    rw [List.getElem?_set]
    by_cases hj : i = j
    · subst hj
      rw [if_pos rfl, if_pos (List.getElem?_eq_some_iff.1 hi).1, hi]
    · rw [if_neg hj]
  have hO := ho.write_ (g := b) (y := sl (some ⟨b, 0, none⟩) cap el size []) (w' := w.setRow b (put_ cur k v.cells.toList)) (o := .cells (put_ cur k v.cells.toList) el (0, 0)) hi (by simp [sl]) rfl rfl rfl rfl (by simp [World.setRow]) (by simp [World.setRow, Array.getElem?_modify, hg]) ⟨_, rfl, by
    simp only [put_, List.size_toArray, List.length_append, List.length_take, List.length_drop, Array.length_toList]
    omega, fun j u hu => by simp at hu⟩ (fun c hcb => by
    simp only [World.setRow, Array.getElem?_modify]
    rw [if_neg (fun hh => hcb hh.symm)])
  rw [hset] at hO
  exact h.go_ hs hO
/-- Bytes laid into new memory that has room for k more. -/
theorem s_fillRoom {d : Nat} {x y : Operand} {i t el b c k : Nat} {B : Option Addr} {l : List UInt8} (ht : P.underlying t = some (.slice el)) (hel : (P.info? el).map (fun i => (i.zero, i.size, i.bytes)) = some (some (.int .u8 0), 1, 1))
    (hx : ev e x = some (.slice (some ⟨b, 0, none⟩) 0 (l.length + k))) (hy : ev e y = some (.slice B l.length c)) (hd : Nat.blt d n = true) (hi : L[i]? = some (bl b el (u8s (List.replicate (l.length + k) 0)).toArray)) (hr : ∀ w, Own w0 F L w → Rd w B l.length 1 (u8s l))
    (h : At n w0 F N ((d, .slice (some ⟨b, 0, none⟩) l.length (l.length + k)) :: e) (L.set i (bl b el (u8s (l ++ List.replicate k 0)).toArray))) :
    At n w0 F (Pw P ⟨some d, .call { callee := .builtin .append, args := #[x, y], argTypes := #[t, t] }, ty, pos, af, g⟩ N Q) e L := by
  refine s_append_room (m := 0) ht hel hx hy hd hi (by simp [u8s]) hr (fun u hu => ?_) (by omega) ?_
  · obtain ⟨c, _, rfl⟩ := List.mem_map.1 (show u ∈ l.map _ from hu); rfl
  · have e1 : put_ (u8s (List.replicate (l.length + k) 0)).toArray (0 * 1) (u8s l) = (u8s (l ++ List.replicate k 0)).toArray := by
      simp [put_, u8s]
    rw [e1, Nat.zero_add]
    exact h
theorem s_makeBytesRoom {d : Nat} {x y : Operand} {t el : TypeId} {kl kc : IntKind} {c : Int} (k : Nat) (ht : P.underlying t = some (.slice el)) (hel : (P.info? el).map (fun i => (i.zero, i.size, i.bytes)) = some (some (.int .u8 0), 1, 1))
    (hx : ev e x = some (.int kl 0)) (hy : ev e y = some (.int kc c)) (hd : Nat.blt d n = true) (hc : c = (k : Int)) (hk : k ≤ 140737488355328)
    (h : ∀ b, w0.heap.size ≤ b → At n w0 F N ((d, .slice (some ⟨b, 0, none⟩) 0 k) :: e) (bl b el (u8s (List.replicate k 0)).toArray :: L)) : At n w0 F (Pw P ⟨some d, .makeSlice t x y, ty, pos, af, g⟩ N Q) e L := by
  subst hc
  refine s_makeSlice ht hel hx hy hd ⟨Int.le_refl _, by omega⟩ ⟨by omega, by omega⟩ fun b hb => ?_
  rw [made_u8, Int.toNat_natCast, Nat.mul_one]
  exact h b hb
theorem rdFile (h : Own w0 F L w) {i b el k : Nat} {l : List UInt8} (hi : L[i]? = some (bl b el (u8s (l ++ List.replicate k 0)).toArray)) (hm : l.length ≤ maxLen) : Rd w (some ⟨b, 0, none⟩) l.length 1 (u8s l) :=
  h.rd_bl hi (by simp [u8s]) hm (by simp [u8s])
theorem room_get {l : List UInt8} {k i : Nat} (h : l.length ≤ i) (h2 : i < l.length + k) : (u8s (l ++ List.replicate k 0))[i]? = some (.int .u8 0) := by
  unfold u8s
  rw [List.getElem?_map, List.getElem?_append_right h, List.getElem?_replicate, if_pos (by omega)]
  rfl
theorem rdRoom (h : Own w0 F L w) {i b el k : Nat} {l : List UInt8} (hi : L[i]? = some (bl b el (u8s (l ++ List.replicate k 0)).toArray)) (hm : l.length + k ≤ maxLen) : Rd w (some ⟨b, 0, none⟩) (l.length + k) 1 (u8s (l ++ List.replicate k 0)) :=
  h.rd_bl hi (by simp [u8s]) hm (List.take_of_length_le (by simp [u8s]))
theorem sl_small {A : Option Addr} {m cap size : Nat} {xs : List Value} (h : SlOk A m cap size xs) : m ≤ cap ∧ cap ≤ 9223372036854775807 := by
  have h1 := h.2.1
  have h2 := h.2.2.1
  simp only [maxLen] at h2
  exact ⟨h1, h2⟩
theorem some_sl {A : Option Addr} {m cap size : Nat} {xs : List Value} (h : SlOk A m cap size xs) (h0 : 0 < m) : ∃ g, A = some ⟨g, 0, none⟩ := by
  cases A with
  | none => have := (h.2.2.2.1 rfl).1; omega
  | some a => obtain ⟨g, rfl⟩ := h.2.2.2.2 a rfl; exact ⟨g, rfl⟩
theorem Own.rotT {a b Z : List Asn} (h : Own w0 F ((a ++ Z) ++ b) w) : Own w0 F (a ++ (b ++ Z)) w := by
  have hm : ∀ x, x ∈ a ++ (b ++ Z) → x ∈ (a ++ Z) ++ b := fun x hx => by
    simp only [List.mem_append] at hx ⊢
    rcases hx with hx | hx | hx
    · exact .inl (.inl hx)
    · exact .inr hx
    · exact .inl (.inr hx)
  refine ⟨h.os, h.tape, h.output, h.size, h.keep, fun x hx => h.ok x (hm x hx), fun x hx => h.new x (hm x hx), ?_⟩
  have hd := h.nd
  simp only [List.filterMap_append, List.nodup_append, List.mem_append] at hd ⊢
  obtain ⟨⟨h1, h2, h3⟩, h4, h5⟩ := hd
  exact ⟨h1, ⟨h4, h2, fun p hp q hq hpq => h5 q (.inr hq) p hp hpq.symm⟩, fun p hp q hq => hq.elim (fun hq => h5 p (.inl hp) q hq) (fun hq => h3 p hp q hq)⟩
end
theorem okCases {ch dp rt : Int} {ts : List ByteArray} {chs : List (List Int)} {n : Nat} (hn : n = chs.length) : (∃ xs ys, ch = (n : Int) ∧ chs = pairOf n xs ys ∧ Chans n xs ys ∧ TrackOk (n : Int) dp rt ts (pairOf n xs ys)) ∨ ¬ TrackOk ch dp rt ts chs := by
  rcases Classical.em (TrackOk ch dp rt ts chs) with h | h
  · refine .inl ?_
    have h1 := h.chN
    have h2 := h.shape
    have h3 := h.len
    obtain rfl : ch = (n : Int) := by omega
    match chs, hn with
    | [], hn => simp at hn; omega
    | [xs], hn =>
      obtain rfl : n = 1 := hn
      exact ⟨xs, [], rfl, rfl, ⟨.inl rfl, fun _ => rfl, fun h => by cases h⟩, h⟩
    | [xs, ys], hn =>
      obtain rfl : n = 2 := hn
      refine ⟨xs, ys, rfl, rfl, ⟨.inr rfl, fun h => (by cases h), fun _ => ?_⟩, h⟩
      have := (h3 ys (by simp)).2
      simp at this
      omega
    | a :: b :: c :: r, hn => simp at hn; omega
  · exact .inr h
/-- The channels' slices of the call's own, as they are read. -/
theorem chPair {w0 w : World} {F : List Nat} {L : List Asn} {k i j c0 c1 : Nat} {A0 A1 : Option Addr} {xs ys : List Int} (hO : Own w0 F L w) (hP : Chans k xs ys) (hi : L[i]? = some (sl A0 c0 3 1 (ints xs))) (hj : L[j]? = some (sl A1 c1 3 1 (ints ys))) (h0 : SlOk A0 xs.length c0 1 (ints xs)) (h1 : SlOk A1 ys.length c1 1 (ints ys)) : ChOk w (pairOf k (A0, xs.length, c0) (A1, ys.length, c1)) (pairOf k xs ys) := by
  have h0' := hO.rd_sl hi h0
  have h1' := hO.rd_sl hj h1
  refine ⟨by rw [pairOf_length hP.two, pairOf_length hP.two], fun i v x hv hx => ?_⟩
  rcases hP.two with rfl | rfl
  · match i with
    | 0 => obtain rfl : (A0, xs.length, c0) = v := by injection hv
           obtain rfl : xs = x := by injection hx
           exact ⟨rfl, h0.2.1, h0.2.2.1, h0'⟩
    | i + 1 => cases hv
  · match i with
    | 0 => obtain rfl : (A0, xs.length, c0) = v := by injection hv
           obtain rfl : xs = x := by injection hx
           exact ⟨rfl, h0.2.1, h0.2.2.1, h0'⟩
    | 1 => obtain rfl : (A1, ys.length, c1) = v := by injection hv
           obtain rfl : ys = x := by injection hx
           exact ⟨rfl, h1.2.1, h1.2.2.1, h1'⟩
    | i + 2 => cases hv
section
variable {w0 w : World} {F : List Nat} {L : List Asn}
theorem rdSv (h : Own w0 F L w) {i b bt k : Nat} {v0 v1 : Sv} (hk : k = 1 ∨ k = 2) (hi : L[i]? = some (bl b bt (svCells k v0 v1))) : Rd w (some ⟨b, 0, none⟩) k 1 (slcs (pairOf k v0 v1)) :=
  h.rd_bl hi (by simp [slcs, pairOf_length hk]) (by simp only [maxLen]; omega) (by rw [svCells]; exact List.take_of_length_le (by simp [slcs, pairOf_length hk]))
theorem EncodeBad (ch dp rt : Int) (T C : Option Addr) (ct cc n : Nat) (ts : List ByteArray) (us : List Sv) (chs : List (List Int)) (w : World) (hn : n = us.length) (hbad : ¬ TrackOk ch dp rt ts chs) (hT : Rd w T ts.length 1 (strs ts)) (hts : ∀ t ∈ ts, t.size < 4294967281) (htn : ts.length ≤ 1000000000) (hC : Rd w C n 1 (slcs us)) (hch : ChOk w us chs) (hcn : n ≤ 1000000000) (hg : Glob w) :
    Calls Tryd.prog 6 #[.agg #[.int .i64 ch, .int .i64 dp, .int .i64 rt, .slice T ts.length ct, .slice C n cc]] w fun en w1 => ∃ r, en = .returned r ∧ ∃ e : Int, e ≠ 0 ∧ r = .tuple #[.slice none 0 0, .int .i64 e] ∧ Own w [] [] w1 := by
  subst hn
  refine (Encode_ ch dp rt T C ct cc ts us chs w hT hts htn hC hch hcn hg).mono ?_
  rintro en w1 ⟨r, rfl, h | h⟩
  · exact ⟨_, rfl, h.2⟩
  · exact absurd h.1 hbad
theorem EncodeOk (n : Nat) (dp rt : Int) (T C : Option Addr) (ct cc : Nat) (ts : List ByteArray) (us : List Sv) (xs ys : List Int) (w : World) (hn : n = us.length) (hok : TrackOk (n : Int) dp rt ts (pairOf n xs ys)) (hT : Rd w T ts.length 1 (strs ts)) (hts : ∀ t ∈ ts, t.size < 4294967281) (htn : ts.length ≤ 1000000000) (hC : Rd w C n 1 (slcs us)) (hch : ChOk w us (pairOf n xs ys)) (hcn : n ≤ 1000000000) (hg : Glob w) :
    Calls Tryd.prog 6 #[.agg #[.int .i64 (n : Int), .int .i64 dp, .int .i64 rt, .slice T ts.length ct, .slice C n cc]] w fun en w1 => ∃ r, en = .returned r ∧ ∃ A' cap', r = .tuple #[.slice A' (encP n dp rt ts xs ys).length cap', .int .i64 0] ∧ BOk A' cap' (encP n dp rt ts xs ys) ∧ Own w [] [SB 5 A' cap' (encP n dp rt ts xs ys)] w1 := by
  have key := Encode_ n dp rt T C ct cc ts us (pairOf n xs ys) w hT hts htn (by rw [← hn]; exact hC) hch (by rw [← hn]; exact hcn) hg
  rw [← hn] at key
  simp only [encB_pair] at key
  refine key.mono ?_
  rintro en w1 ⟨r, rfl, h | h⟩
  · exact absurd hok h.1
  · exact ⟨_, rfl, h.2⟩
end
theorem file_small {n : Nat} {dp rt : Int} {ts : List ByteArray} {xs ys : List Int} (hP : Chans n xs ys) (hok : TrackOk (n : Int) dp rt ts (pairOf n xs ys)) : (dataB dp (pairOf n xs ys) xs.length).length ≤ 24576 ∧ ((dataB dp (pairOf n xs ys) xs.length).length : Int) % blk n dp = 0 ∧ ((dataB dp (pairOf n xs ys) xs.length).length : Int) / blk n dp ≤ 4096 ∧ (encP n dp rt ts xs ys).length ≤ 1000000 := by
  have hsh := hok.shape
  have hbd := blk_bd (ch := (n : Int)) (dp := dp) (by omega) (by omega)
  have hN4 := chN_le hok
  have hdb := data_blk hok
  have hds := data_small (n := chN (pairOf n xs ys)) (dp := dp) (by omega) (chs := pairOf n xs ys) (by rw [pairOf_length hP.two]; omega) hN4
  rw [chN_pair] at hN4 hdb hds
  refine ⟨hds, by rw [hdb]; exact Int.mul_emod_left _ _, by rw [hdb, Int.mul_ediv_cancel _ (by omega)]; omega, ?_⟩
  have h1 := body_len (n : Int) dp rt ts (dataB dp (pairOf n xs ys) xs.length)
  have hht : (headT (n : Int) dp rt ts).length ≤ 200 := by
    have h28 := headB_length (n : Int) dp rt
    have htN := hok.tagsN
    have htl := tagB_length ts (fun t ht => isTagF_small (List.all_eq_true.1 hok.tags t ht))
    unfold headT
    split
    · omega
    · rw [partF_length, h28]; show 28 + 4 + 4 + _ + _ ≤ _; omega
  have hbl : (bodyB (n : Int) dp rt ts (dataB dp (pairOf n xs ys) xs.length)).length ≤ 100000 := by
    rw [bodyB, partF_length]; show _ + 4 + 4 + _ + _ ≤ _; omega
  have h2 : (encP n dp rt ts xs ys).length = (fileB (n : Int) dp rt ts (dataB dp (pairOf n xs ys) xs.length)).length := rfl
  omega
end Go.Proofs.YtlpoepmipbegaaaDoor.Wv
