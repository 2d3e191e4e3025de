/- The wav package: parts of a file; taking bytes off the front. -/
import Derived.Test.YtlpoepmipbegaaaDoorV1
set_option linter.unusedVariables false
set_option linter.unusedSimpArgs false
namespace Go.Proofs.YtlpoepmipbegaaaDoor.Wv
open Go Go.RowKit Go.Proofs.YtlpoepmipbegaaaDoor.En
def partF (l mark z : List UInt8) : List UInt8 := l ++ mark ++ le z.length 4 ++ z ++ List.replicate (z.length % 2) 0
set_option maxRecDepth 20000 in
theorem part_ (A : Option Addr) (cap : Nat) (l : List UInt8) (s : ByteArray) (B : Option Addr) (c : Nat) (z : List UInt8) (w : World) (hk : BOk A cap l) (hO : Own w (fb [SB 5 A cap l]) [SB 5 A cap l] w)
    (hB : Rd w B z.length 1 (u8s z)) (hBF : 0 < z.length → ∀ a, B = some a → a.block ∉ fb [SB 5 A cap l]) (hl : l.length + s.size + z.length ≤ 100000000) :
    Calls Tryd.prog 29 #[.slice A l.length cap, .string s, .slice B z.length c] w fun en w1 => ∃ r, en = .returned r ∧ ∃ A' cap', r = .slice A' (partF l s.data.toList z).length cap' ∧ BOk A' cap' (partF l s.data.toList z) ∧ Own w (fb [SB 5 A cap l]) [SB 5 A' cap' (partF l s.data.toList z)] w1 := by
  refine fn_enterF (args := [_, _, _]) hO Tryd.func29 rfl rfl rfl ?_
  have hs : s.data.toList.length = s.size := Array.length_toList
  refine x_seq ?_
  refine x_region ?_
  refine x_op rfl (x_val (r_assign rfl) rfl ?_)
  refine x_nil ?_
  refine x_seq ?_
  refine x_region ?_
  refine x_op rfl (x_val (r_move rfl) rfl ?_)
  refine x_op rfl (x_val (r_move rfl) rfl ?_)
  refine x_op rfl (s_appS (i := 0) Tryd.underlying31 Tryd.underlying9 Ty.i5 rfl rfl rfl rfl hk (by omega) fun A1 c1 hk1 => ?_)
  refine x_op rfl (x_val (r_move rfl) rfl ?_)
  refine x_op rfl (x_val (r_len_slice Tryd.underlying31 rfl) rfl ?_)
  refine x_op rfl (s_call Ty.c15 rfl rfl (fun w hw => low_ A1 c1 (l ++ s.data.toList) z.length 4 w hk1 (hw.sub_ [0] (by decide)) (by rw [List.length_append]; omega) (by omega)) (fun wq v wq1 hw h => ?_))
  obtain ⟨A2, c2, rfl, hk2, hO⟩ := h
  refine ⟨_, hw.swap_ [0] [] (by decide) hO, ?_⟩
  refine x_nf (L' := [_]) rfl ?_
  refine x_op rfl (x_val (r_move rfl) rfl ?_)
  refine x_op rfl (s_appB (i := 0) (z := z) Tryd.underlying31 Ty.i5 rfl rfl rfl rfl hk2 (fun w hO => hO.rd_any hB hBF) (by simp only [List.length_append, le_length]; omega) fun A3 c3 hk3 => ?_)
  refine x_op rfl (x_val (r_assign rfl) rfl ?_)
  refine x_nil ?_
  refine x_seq ?_
  refine x_region ?_
  refine x_op rfl (x_val (r_move rfl) rfl ?_)
  refine x_op rfl (x_val (r_move rfl) rfl ?_)
  refine x_op rfl (x_val (r_len_slice Tryd.underlying31 rfl) rfl ?_)
  refine x_op rfl (x_val (r_rem rfl rfl ⟨by omega, by omega, by omega⟩) rfl ?_)
  refine x_op rfl (s_appZ (i := 0) (m := z.length % 2) Tryd.underlying31 Tryd.underlying3 Tryd.underlying9 Ty.i5 rfl rfl rfl rfl hk3 (by omega) (by simp only [List.length_append, le_length]; omega) fun A4 c4 hk4 => ?_)
  refine x_op rfl (x_val (r_assign rfl) rfl ?_)
  refine x_nil ?_
  refine x_ret ?_
  -- path 
  exact x_ret1 rfl rfl fun w1 hO => ⟨_, rfl, A4, c4, rfl, hk4, hO⟩
abbrev me (b : Nat) : Option Addr := some ⟨b, 0, none⟩
/-- What is left of a slice behind its first n bytes. -/
def dropA (B : Option Addr) (c n : Nat) : Option Addr := if c = n then B else B.map (·.add (n * 1))
set_option maxRecDepth 20000 in
theorem take_ (b : Nat) (B : Option Addr) (m c n : Nat) (bad : Bool) (w : World) (h1 : n ≤ m) (h2 : m ≤ c) (h3 : c ≤ 1000000000000) (hO : Own w [b] [bl b 56 #[.slice B m c, .bool bad]] w) :
    Calls Tryd.prog 34 #[.pointer (me b), .int .i64 n] w fun en w1 => ∃ r, en = .returned r ∧ (r = .slice B n c ∧ Own w [b] [bl b 56 #[.slice (dropA B c n) (m - n) (c - n), .bool bad]] w1) := by
  refine fn_enterF (args := [_, _]) hO Tryd.func34 rfl rfl rfl ?_
  refine x_seq ?_
  refine x_region ?_
  refine x_op rfl (x_val (r_assign rfl) rfl ?_)
  refine x_nil ?_
  refine x_seq ?_
  refine x_seq ?_
  refine x_region ?_
  refine x_op rfl (x_val (r_move rfl) rfl ?_)
  refine x_op rfl (x_val (r_lss (r := false) rfl rfl (decide_eq_false (by omega))) rfl ?_)
  refine x_op rfl (x_val (r_move rfl) rfl ?_)
  refine x_op rfl (x_val (r_move rfl) rfl ?_)
  refine x_op rfl (x_val (r_move rfl) rfl ?_)
  refine x_op rfl (x_val (r_nilCheck rfl) rfl ?_)
  refine x_op rfl (x_val (r_fieldAddr Ty.q56_0 rfl) rfl ?_)
  refine x_op rfl (x_val (r_own_add (i := 0) Ty.z31 rfl rfl rfl) rfl ?_)
  refine x_op rfl (x_val (r_len_slice Tryd.underlying31 rfl) rfl ?_)
  refine x_op rfl (x_val (r_gtr (r := false) rfl rfl (decide_eq_false (by omega))) rfl ?_)
  refine x_op rfl (x_val (r_pick_f rfl rfl) rfl ?_)
  refine x_nil ?_
  refine x_false rfl ?_
  refine x_skip ?_
  refine x_seq ?_
  refine x_region ?_
  refine x_op rfl (x_val (r_move rfl) rfl ?_)
  refine x_op rfl (x_val (r_nilCheck rfl) rfl ?_)
  refine x_op rfl (x_val (r_fieldAddr Ty.q56_0 rfl) rfl ?_)
  refine x_op rfl (x_val (r_own_add (i := 0) Ty.z31 rfl rfl rfl) rfl ?_)
  refine x_op rfl (x_val (r_move rfl) rfl ?_)
  refine x_op rfl (x_val (r_slice_hi Tryd.underlying31 Ty.i5 rfl rfl ⟨by omega, by omega⟩) rfl ?_)
  refine x_op rfl (x_val (r_assign rfl) rfl ?_)
  refine x_nil ?_
  refine x_seq ?_
  refine x_region ?_
  refine x_op rfl (x_val (r_move rfl) rfl ?_)
  refine x_op rfl (x_val (r_move rfl) rfl ?_)
  refine x_op rfl (x_val (r_nilCheck rfl) rfl ?_)
  refine x_op rfl (x_val (r_fieldAddr Ty.q56_0 rfl) rfl ?_)
  refine x_op rfl (x_val (r_own_add (i := 0) Ty.z31 rfl rfl rfl) rfl ?_)
  refine x_op rfl (x_val (r_move rfl) rfl ?_)
  refine x_op rfl (x_val (r_slice_lo Tryd.underlying31 Ty.i5 rfl rfl ⟨by omega, by omega⟩ (by omega)) rfl ?_)
  refine x_op rfl (x_val (r_nilCheck rfl) rfl ?_)
  refine x_op rfl (x_val (r_fieldAddr Ty.q56_0 rfl) rfl ?_)
  refine x_op rfl (s_store (i := 0) Ty.z31 rfl rfl rfl rfl rfl rfl ?_)
  refine x_nf (L' := [_]) rfl ?_
  refine x_nil ?_
  refine x_seq ?_
  refine x_region ?_
  refine x_op rfl (x_val (r_move rfl) rfl ?_)
  refine x_op rfl (x_val (r_assign rfl) rfl ?_)
  refine x_nil ?_
  refine x_ret ?_
  -- path 
  exact x_ret1 rfl rfl fun w1 hO => ⟨_, rfl, rfl, hO⟩
/-- A number of bytes, the lowest first. -/
def leV : List UInt8 → Nat
  | [] => 0
  | b :: r => b.toNat + 256 * leV r
theorem leV_append : ∀ a b : List UInt8, leV (a ++ b) = leV a + 256 ^ a.length * leV b
  | [], b => by simp [leV]
  | x :: a, b => by
    simp only [List.cons_append, leV, leV_append a b, List.length_cons, Nat.pow_succ, Nat.mul_add]
    rw [Nat.mul_comm (256 ^ a.length) 256, Nat.mul_assoc, Nat.add_assoc]
theorem leV_lt : ∀ a : List UInt8, leV a < 256 ^ a.length
  | [] => by simp [leV]
  | x :: a => by
    have h1 := leV_lt a
    have h2 := x.toNat_lt
    simp only [leV, List.length_cons, Nat.pow_succ]
    omega
theorem leV_take {x : List UInt8} {s : Nat} {y : UInt8} (h : x[s]? = some y) : leV (x.take (s + 1)) = leV (x.take s) + y.toNat * 256 ^ s := by
  have hs : s < x.length := (List.getElem?_eq_some_iff.1 h).1
  rw [List.take_add_one, h, leV_append, List.length_take, Nat.min_eq_left (by omega)]
  simp [leV, Nat.mul_comm]
theorem orS {a y s : Nat} (ha : a < 256 ^ s) (hs : s ≤ 3) (hy : y < 256) : bits .or .i64 (a : Int) ((y : Int) * 256 ^ s) = ((a + y * 256 ^ s : Nat) : Int) := by
  have hp : 256 ^ s ≤ 16777216 := by
    have : s = 0 ∨ s = 1 ∨ s = 2 ∨ s = 3 := by omega
    rcases this with rfl | rfl | rfl | rfl <;> decide
  have hm : y * 256 ^ s ≤ 255 * 16777216 := Nat.mul_le_mul (by omega) hp
  have e : (y : Int) * 256 ^ s = ((y * 256 ^ s : Nat) : Int) := by simp
  rw [e, Wd.i64_or_nat a (y * 256 ^ s) (by omega) (by omega)]
  have h8 : 256 ^ s = 2 ^ (8 * s) := by rw [Nat.pow_mul]
  rw [h8] at ha ⊢
  rw [Nat.mul_comm y, Nat.or_comm, ← Nat.two_pow_add_eq_or_of_lt ha, Nat.add_comm]
theorem u8s_get {x : List UInt8} {s : Nat} {y : UInt8} (h : x[s]? = some y) : (u8s x)[s * 1 + 0]? = some (.int .u8 y.toNat) := by simp [u8s, h]
set_option maxRecDepth 20000 in
theorem number_ (b : Nat) (B : Option Addr) (m c : Nat) (x : List UInt8) (bad : Bool) (w : World) (h1 : x.length ≤ m) (h2 : m ≤ c) (h3 : c ≤ 1000000000000) (hx : x.length ≤ 4) (hr : Rd w B x.length 1 (u8s x)) (hB : ∀ a, B = some a → a.block ∉ [b]) (hO : Own w [b] [bl b 56 #[.slice B m c, .bool bad]] w) :
    Calls Tryd.prog 19 #[.pointer (me b), .int .i64 x.length] w fun en w1 => ∃ r, en = .returned r ∧ (r = .int .i64 (leV x) ∧ Own w [b] [bl b 56 #[.slice (dropA B c x.length) (m - x.length) (c - x.length), .bool bad]] w1) := by
  refine fn_enterF (args := [_, _]) hO Tryd.func19 rfl rfl rfl ?_
  refine x_seq ?_
  refine x_region ?_
  refine x_op rfl (x_val (r_assign rfl) rfl ?_)
  refine x_nil ?_
  refine x_seq ?_
  refine x_region ?_
  refine x_op rfl (x_val (r_assign rfl) rfl ?_)
  refine x_nil ?_
  refine x_seq ?_
  refine x_seq ?_
  refine x_region ?_
  refine x_op rfl (x_val (r_move rfl) rfl ?_)
  refine x_op rfl (x_val (r_move rfl) rfl ?_)
  refine x_op rfl (s_call Ty.c34 rfl rfl (fun w hw => take_ b B m c x.length bad w h1 h2 h3 (hw.sub_ [0] (by decide))) (fun wq v wq1 hw h => ?_))
  obtain ⟨rfl, hO⟩ := h
  refine ⟨_, hw.swap_ [0] [] (by decide) hO, ?_⟩
  refine x_nf (L' := [_]) rfl ?_
  refine x_op rfl (x_val (r_len_slice Tryd.underlying31 rfl) rfl ?_)
  refine x_op rfl (x_val (r_move rfl) rfl ?_)
  refine x_nil ?_
  refine x_block ?_
  refine x_loopP (σ := Nat) [10, 11] [0] (fun s => [(5, .int .i64 (leV (x.take s))), (12, .int .i64 s)]) (fun s => []) (fun s => s ≤ x.length) (fun s => x.length - s) (0) (by repeat (first | exact trivial | refine ⟨rfl, ?_⟩)) (fun _ h => h.pick_ [0] (by decide)) (by omega) ?_
  rintro s hI
  refine x_nfe (e' := [_, _, _, _]) (L' := [_]) rfl rfl ?_
  refine x_seq ?_
  refine x_region ?_
  refine x_op rfl (x_val (r_lss rfl rfl rfl) rfl (x_dec (fun h13 => ?_) (fun h13 => ?_)))
  · refine x_nil ?_
    refine x_seq ?_
    refine x_true rfl ?_
    refine x_skip ?_
    refine x_seq ?_
    refine x_block ?_
    refine x_seq ?_
    refine x_region ?_
    refine x_op rfl (x_val (r_move rfl) rfl ?_)
    have hlt : s < x.length := by omega
    have hy : x[s]? = some (x[s]'hlt) := List.getElem?_eq_getElem hlt
    generalize x[s]'hlt = y at hy
    have hyb := y.toNat_lt
    obtain ⟨ad, rfl⟩ := hr.some_ (by omega)
    have hp : (1 : Int) ≤ 256 ^ s ∧ (256 : Int) ^ s ≤ 16777216 := by
      have : s = 0 ∨ s = 1 ∨ s = 2 ∨ s = 3 := by omega
      rcases this with rfl | rfl | rfl | rfl <;> decide
    have hmul : 0 ≤ (y.toNat : Int) * 256 ^ s ∧ (y.toNat : Int) * 256 ^ s ≤ 255 * 16777216 := ⟨Int.mul_nonneg (by omega) (by omega), Int.mul_le_mul (by omega) hp.2 (by omega) (by omega)⟩
    have hla : leV (x.take s) < 256 ^ s := by have := leV_lt (x.take s); rwa [List.length_take, Nat.min_eq_left (by omega)] at this
    refine x_op rfl (x_val (r_indexAddr Tryd.underlying31 Ty.i5 rfl rfl ⟨by omega, by omega⟩) rfl ?_)
    refine x_op rfl (x_val (r_load1 (v := .int .u8 y.toNat) Ty.z5 rfl (fun w hS => (hS.rd_old hr hB).cell_ (k := s) (j := 0) hlt (by omega) rfl (u8s_get hy))) rfl ?_)
    refine x_op rfl (x_val (r_assign rfl) rfl ?_)
    refine x_op rfl (x_val (r_assign rfl) rfl ?_)
    refine x_nil ?_
    refine x_region ?_
    refine x_op rfl (x_val (r_move rfl) rfl ?_)
    refine x_op rfl (x_val (r_move rfl) rfl ?_)
    refine x_op rfl (x_val (r_conv_int Tryd.underlying5 Tryd.underlying3 rfl (i64_wrap (by omega) (by omega))) rfl ?_)
    refine x_op rfl (x_val (r_move rfl) rfl ?_)
    refine x_op rfl (x_val (r_mul rfl rfl ⟨by omega, by omega⟩) rfl ?_)
    refine x_op rfl (x_val (r_shl (256 ^ s) rfl rfl (pow8 s) ⟨by omega, by omega⟩ ⟨by omega, by omega⟩) rfl ?_)
    refine x_op rfl (x_val (r_bits rfl rfl rfl (orS hla (by omega) hyb)) rfl ?_)
    refine x_op rfl (x_val (r_assign rfl) rfl ?_)
    refine x_nil ?_
    refine x_region ?_
    refine x_op rfl (x_val (r_add rfl rfl ⟨by omega, by omega⟩) rfl ?_)
    refine x_op rfl (x_val (r_move rfl) rfl ?_)
    refine x_nil ?_
    have e1 := leV_take hy
    refine x_again (s + 1) (by simp only [e1]; repeat (first | exact trivial | refine ⟨rfl, ?_⟩)) (fun _ h => h.pick_ [0] (by decide)) (by omega) (by omega)
  · refine x_nil ?_
    refine x_seq ?_
    refine x_false rfl ?_
    refine x_exit rfl ?_
    refine x_seq ?_
    refine x_region ?_
    refine x_op rfl (x_val (r_move rfl) rfl ?_)
    refine x_op rfl (x_val (r_assign rfl) rfl ?_)
    refine x_nil ?_
    refine x_ret ?_
    -- path F
    have hs : s = x.length := by omega
    subst hs
    rw [List.take_length]
    exact x_ret1 rfl rfl fun w1 hO => ⟨_, rfl, rfl, hO⟩
/-- A text's bytes are read: the same text. -/
theorem r_bytes_strB {P : Program} {n : Nat} {S : World → Prop} {e : Env} {dst : Option Tmp} {ty : TypeId} {pos : String} {af : Array Edge} {g : Option (Nat × Bool)} {x : Operand} {s d el : TypeId} {A : Option Addr} {c : Nat} {l : List UInt8} (hsrc : P.underlying s = some (.slice el)) (hel : P.underlying el = some (.int .u8)) (hdst : P.underlying d = some .string) (hx : ev e x = some (.slice A l.length c))
    (hr : ∀ w, S w → Rd w A l.length 1 (u8s l)) : Rig P n S e ⟨dst, .convert s d x, ty, pos, af, g⟩ (.string ⟨l.toArray⟩) := by
  have h := r_bytes_str (n := n) (e := e) (dst := dst) (ty := ty) (pos := pos) (af := af) (g := g) (ns := l.map fun b => (b.toNat : Int)) hsrc hel hdst hx (fun w hS => by have := hr w hS; rw [u8s] at this; rw [List.map_map]; exact this)
  have e2 : strOfNums (l.map fun b => (b.toNat : Int)) = ⟨l.toArray⟩ := by
    unfold strOfNums
    congr 1
    apply Array.ext'
    have e3 : ((fun n : Int => UInt8.ofNat n.toNat) ∘ fun b : UInt8 => (b.toNat : Int)) = id := by funext b; simp
    simp [e3]
  rw [e2] at h
  exact h
set_option maxRecDepth 20000 in
theorem must_ (b : Nat) (B : Option Addr) (m c : Nat) (x : List UInt8) (w : World) (h1 : x.length ≤ m) (h2 : m ≤ c) (h3 : c ≤ 1000000000000) (hr : Rd w B x.length 1 (u8s x)) (hB : ∀ a, B = some a → a.block ∉ [b]) (hO : Own w [b] [bl b 56 #[.slice B m c, .bool false]] w) :
    Calls Tryd.prog 30 #[.pointer (me b), .string ⟨x.toArray⟩] w fun en w1 => ∃ r, en = .returned r ∧ (r = .tuple #[] ∧ Own w [b] [bl b 56 #[.slice (dropA B c x.length) (m - x.length) (c - x.length), .bool false]] w1) := by
  refine fn_enterF (args := [_, _]) hO Tryd.func30 rfl rfl rfl ?_
  refine x_region ?_
  refine x_op rfl (x_val (r_move rfl) rfl ?_)
  refine x_op rfl (x_val (r_move rfl) rfl ?_)
  refine x_op rfl (x_val (r_nilCheck rfl) rfl ?_)
  refine x_op rfl (x_val (r_fieldAddr Ty.q56_1 rfl) rfl ?_)
  refine x_op rfl (x_val (r_own_add (i := 0) Ty.z4 rfl rfl rfl) rfl ?_)
  refine x_op rfl (x_val (r_move rfl) rfl ?_)
  refine x_op rfl (x_val (r_move rfl) rfl ?_)
  refine x_op rfl (x_val (r_move rfl) rfl ?_)
  refine x_op rfl (x_val (r_len_string Tryd.underlying9 rfl) rfl ?_)
  refine x_op rfl (s_call Ty.c34 rfl rfl (fun w hw => take_ b B m c x.length false w h1 h2 h3 (hw.sub_ [0] (by decide))) (fun wq v wq1 hw h => ?_))
  obtain ⟨rfl, hO⟩ := h
  refine ⟨_, hw.swap_ [0] [] (by decide) hO, ?_⟩
  refine x_nf (L' := [_]) rfl ?_
  refine x_op rfl (x_val (r_bytes_strB Tryd.underlying31 Tryd.underlying5 Tryd.underlying9 rfl (fun w hS => hS.rd_old hr hB)) rfl ?_)
  refine x_op rfl (x_val (r_move rfl) rfl ?_)
  refine x_op rfl (x_val (r_neq_string (r := false) rfl rfl (by simp)) rfl ?_)
  refine x_op rfl (x_val (r_pick_f rfl rfl) rfl ?_)
  refine x_op rfl (x_val (r_nilCheck rfl) rfl ?_)
  refine x_op rfl (x_val (r_fieldAddr Ty.q56_1 rfl) rfl ?_)
  refine x_op rfl (s_store (i := 0) Ty.z4 rfl rfl rfl rfl rfl rfl ?_)
  refine x_nf (L' := [_]) rfl ?_
  refine x_nil ?_
  -- path 
  exact x_ret0 rfl fun w1 hO => ⟨_, rfl, rfl, hO⟩
set_option maxRecDepth 20000 in
theorem want_ (b : Nat) (B : Option Addr) (m c : Nat) (x : List UInt8) (v : Int) (w : World) (hv : v = leV x) (h1 : x.length ≤ m) (h2 : m ≤ c) (h3 : c ≤ 1000000000000) (hx : x.length ≤ 4) (hr : Rd w B x.length 1 (u8s x)) (hB : ∀ a, B = some a → a.block ∉ [b]) (hO : Own w [b] [bl b 56 #[.slice B m c, .bool false]] w) :
    Calls Tryd.prog 31 #[.pointer (me b), .int .i64 v, .int .i64 x.length] w fun en w1 => ∃ r, en = .returned r ∧ (r = .tuple #[] ∧ Own w [b] [bl b 56 #[.slice (dropA B c x.length) (m - x.length) (c - x.length), .bool false]] w1) := by
  subst hv
  refine fn_enterF (args := [_, _, _]) hO Tryd.func31 rfl rfl rfl ?_
  refine x_region ?_
  refine x_op rfl (x_val (r_move rfl) rfl ?_)
  refine x_op rfl (x_val (r_move rfl) rfl ?_)
  refine x_op rfl (x_val (r_nilCheck rfl) rfl ?_)
  refine x_op rfl (x_val (r_fieldAddr Ty.q56_1 rfl) rfl ?_)
  refine x_op rfl (x_val (r_own_add (i := 0) Ty.z4 rfl rfl rfl) rfl ?_)
  refine x_op rfl (x_val (r_move rfl) rfl ?_)
  refine x_op rfl (x_val (r_move rfl) rfl ?_)
  refine x_op rfl (x_val (r_move rfl) rfl ?_)
  refine x_op rfl (s_call Ty.c19 rfl rfl (fun w hw => number_ b B m c x false w h1 h2 h3 hx (hw.rd_old hr hB) hB (hw.sub_ [0] (by decide))) (fun wq v wq1 hw h => ?_))
  obtain ⟨rfl, hO⟩ := h
  refine ⟨_, hw.swap_ [0] [] (by decide) hO, ?_⟩
  refine x_nf (L' := [_]) rfl ?_
  refine x_op rfl (x_val (r_move rfl) rfl ?_)
  refine x_op rfl (x_val (r_neq (r := false) rfl rfl (by simp)) rfl ?_)
  refine x_op rfl (x_val (r_pick_f rfl rfl) rfl ?_)
  refine x_op rfl (x_val (r_nilCheck rfl) rfl ?_)
  refine x_op rfl (x_val (r_fieldAddr Ty.q56_1 rfl) rfl ?_)
  refine x_op rfl (s_store (i := 0) Ty.z4 rfl rfl rfl rfl rfl rfl ?_)
  refine x_nf (L' := [_]) rfl ?_
  refine x_nil ?_
  -- path 
  exact x_ret0 rfl fun w1 hO => ⟨_, rfl, rfl, hO⟩
end Go.Proofs.YtlpoepmipbegaaaDoor.Wv
