/- The engine, fourth part: loops and cuts that tell only what turns; more rigid rules. -/
import Derived.Test.YtlpoepmipbegaaaDoorE3
set_option linter.unusedVariables false
set_option linter.unusedSimpArgs false
namespace Go.Proofs.YtlpoepmipbegaaaDoor.En
open Go Go.RowKit
/-- Some slots of a frame. -/
def sel : List Nat → Env → Env
  | [], _ => []
  | t :: ts, e => match get e t with
    | some v => (t, v) :: sel ts e
    | none => sel ts e
section
variable {P : Program} {n : Nat} {w0 : World} {F : List Nat} {e : Env} {L : List Asn} {Q : Exit → Act → World → Prop} {N kn kr : Cont} {kx : List (Nat × Cont)} {S : World → Prop} {o : Oper} {v : Value} {dst : Option Tmp} {ty : TypeId} {pos : String} {af : Array Edge} {g : Option (Nat × Bool)}
theorem x_loopP {c : Code} {σ : Type} (ks is : List Nat) (mk : σ → Env) (hp : σ → List Asn) (I : σ → Prop) (μ : σ → Nat) (s0 : σ) (h0 : Sub (mk s0 ++ sel ks e) e) (hL : ∀ w, Own w0 F L w → Own w0 F (hp s0 ++ pick L is) w) (hI : I s0)
    (round : ∀ s, I s → At n w0 F (Cw P c (Qof (Rw n w0 F (fun s => mk s ++ sel ks e) (fun s => hp s ++ pick L is) (fun s' => I s' ∧ μ s' < μ s)) kr kx)) (mk s ++ sel ks e) (hp s ++ pick L is)) : At n w0 F (Cw P (Code.loop c) (Qof kn kr kx)) e L :=
  x_loop (fun s => mk s ++ sel ks e) (fun s => hp s ++ pick L is) I μ s0 h0 hL hI round
theorem x_cutP {x y : Code} {σ : Type} (ks is : List Nat) (mk : σ → Env) (hp : σ → List Asn) (I : σ → Prop) (h : At n w0 F (Cw P x (Qof (Rw n w0 F (fun s => mk s ++ sel ks e) (fun s => hp s ++ pick L is) I) kr kx)) e L)
    (hy : ∀ s, I s → At n w0 F (Cw P y (Qof kn kr kx)) (mk s ++ sel ks e) (hp s ++ pick L is)) : At n w0 F (Cw P (Code.seq x y) (Qof kn kr kx)) e L :=
  x_cut (fun s => mk s ++ sel ks e) (fun s => hp s ++ pick L is) I h hy
theorem x_textP {id : Nat} {ops : List Oper} (is : List Nat) (hm : (P.follows .mixedOrders && textOk ops.toArray) = true) (hn : is.Nodup) (h : At n w0 F (Tw P ops.toArray (Qof kn kr kx) (Own w0 F (pick L is)) 0 ops) e L) : At n w0 F (Cw P (Code.region id ops.toArray true) (Qof kn kr kx)) e L :=
  x_textS (pick L is) hm (fun _ h => h.pick_ is hn) h
theorem x_nf {L' : List Asn} (hL : L = L') (h : At n w0 F N e L') : At n w0 F N e L := hL ▸ h
theorem x_nfe {e' : Env} {L' : List Asn} (he : e = e') (hL : L = L') (h : At n w0 F N e' L') : At n w0 F N e L := he ▸ hL ▸ h
theorem r_addW {x y : Operand} {t yt : TypeId} {k : IntKind} {a b : Int} (hx : ev e x = some (.int k a)) (hy : ev e y = some (.int k b)) :
    Rig P n S e ⟨dst, .binOp .add t x y yt, ty, pos, af, g⟩ (.int k (k.wrap (a + b))) := Rig.mk_ fun c w hs _ => by
  simp only [execOp, hs.ev_ hx, hs.ev_ hy]; simp [go_sem, Op.intArith]
theorem r_subW {x y : Operand} {t yt : TypeId} {k : IntKind} {a b : Int} (hx : ev e x = some (.int k a)) (hy : ev e y = some (.int k b)) :
    Rig P n S e ⟨dst, .binOp .sub t x y yt, ty, pos, af, g⟩ (.int k (k.wrap (a - b))) := Rig.mk_ fun c w hs _ => by
  simp only [execOp, hs.ev_ hx, hs.ev_ hy]; simp [go_sem, Op.intArith]
theorem r_mulW {x y : Operand} {t yt : TypeId} {k : IntKind} {a b : Int} (hx : ev e x = some (.int k a)) (hy : ev e y = some (.int k b)) :
    Rig P n S e ⟨dst, .binOp .mul t x y yt, ty, pos, af, g⟩ (.int k (k.wrap (a * b))) := Rig.mk_ fun c w hs _ => by
  simp only [execOp, hs.ev_ hx, hs.ev_ hy]; simp [go_sem, Op.intArith]
/-- Go's quotient and remainder, where both are no less than nought. -/
theorem r_quo {x y : Operand} {t yt : TypeId} {a b : Int} (hx : ev e x = some (.int .i64 a)) (hy : ev e y = some (.int .i64 b)) (h : 0 ≤ a ∧ a ≤ 9223372036854775807 ∧ 0 < b) :
    Rig P n S e ⟨dst, .binOp .quo t x y yt, ty, pos, af, g⟩ (.int .i64 (a / b)) := Rig.mk_ fun c w hs _ => by
  have hb : b ≠ 0 := by omega
  have h1 : a.tdiv b = a / b := Int.tdiv_eq_ediv_of_nonneg h.1
  have h2 : 0 ≤ a / b := Int.ediv_nonneg h.1 (by omega)
  have h3 : a / b ≤ a := Int.ediv_le_self b h.1
  simp only [execOp, hs.ev_ hx, hs.ev_ hy]; simp [go_sem, Op.intDiv, hb, h1, i64_wrap (x := a / b) (by omega) (by omega)]
theorem r_rem {x y : Operand} {t yt : TypeId} {a b : Int} (hx : ev e x = some (.int .i64 a)) (hy : ev e y = some (.int .i64 b)) (h : 0 ≤ a ∧ a ≤ 9223372036854775807 ∧ 0 < b) :
    Rig P n S e ⟨dst, .binOp .rem t x y yt, ty, pos, af, g⟩ (.int .i64 (a % b)) := Rig.mk_ fun c w hs _ => by
  have hb : b ≠ 0 := by omega
  have h1 : a.tmod b = a % b := Int.tmod_eq_emod_of_nonneg h.1
  have h2 : 0 ≤ a % b := Int.emod_nonneg a hb
  have h3 : a % b ≤ a := by
    rcases Int.lt_or_le a b with h4 | h4
    · rw [Int.emod_eq_of_lt h.1 h4]; exact Int.le_refl _
    · have := Int.emod_lt_of_pos a h.2.2; omega
  simp only [execOp, hs.ev_ hx, hs.ev_ hy]; simp [go_sem, Op.intDiv, hb, h1, i64_wrap (x := a % b) (by omega) (by omega)]
/-- A struct inside a block of the call's own. -/
theorem r_own_at {x : Operand} {t : TypeId} {i b bt j k : Nat} {cs : List Value} {vs : List Value} (ht : tyB P t true k = true) (hl : vs.length = k) (hx : ev e x = some (.pointer (some (Addr.add ⟨b, 0, none⟩ j)))) (hi : L[i]? = some (bl b bt cs.toArray)) (hv : (cs.drop j).take k = vs) :
    Rig P n (Own w0 F L) e ⟨dst, .load t x, ty, pos, af, g⟩ (.agg vs.toArray) := r_loadN vs ht hl hx fun w hO q u hq => by
  rw [add_add_, add_lit, hO.cell_ hi, Nat.zero_add]
  have hqk : q < k := by rw [← hl]; exact (List.getElem?_eq_some_iff.1 hq).1
  rw [← hv, List.getElem?_take_of_lt hqk, List.getElem?_drop] at hq
  simpa using hq
theorem r_slice_str_hi {x y : Operand} {t : TypeId} {s : ByteArray} {k : IntKind} {i : Int} (ht : P.underlying t = some .string) (hx : ev e x = some (.string s)) (hy : ev e y = some (.int k i)) (h : 0 ≤ i ∧ i ≤ (s.size : Int)) :
    Rig P n S e ⟨dst, .slice t x none (some y) none, ty, pos, af, g⟩ (.string (s.extract 0 i.toNat)) := Rig.mk_ fun ac w hs _ => by
  simp [execOp, hs.ev_ hx, hs.ev_ hy, Instr.sliceAt, Instr.slice, Instr.sliceBounds, Instr.sliceBound, run_underlying ht, asIntOf, h.1, h.2]
theorem r_slice_str_lo {x y : Operand} {t : TypeId} {s : ByteArray} {k : IntKind} {i : Int} (ht : P.underlying t = some .string) (hx : ev e x = some (.string s)) (hy : ev e y = some (.int k i)) (h : 0 ≤ i ∧ i ≤ (s.size : Int)) :
    Rig P n S e ⟨dst, .slice t x (some y) none none, ty, pos, af, g⟩ (.string (s.extract i.toNat s.size)) := Rig.mk_ fun ac w hs _ => by
  simp [execOp, hs.ev_ hx, hs.ev_ hy, Instr.sliceAt, Instr.slice, Instr.sliceBounds, Instr.sliceBound, run_underlying ht, asIntOf, h.1, h.2]
end
end Go.Proofs.YtlpoepmipbegaaaDoor.En
