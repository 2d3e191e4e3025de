/- leaf.Encode. -/
import Derived.Test.YtlpoepmipbegaaaLb
import Derived.Test.YtlpoepmipbegaaaLh
set_option linter.unusedVariables false
set_option linter.unusedSimpArgs false
namespace Go.Proofs.Ytlpoepmipbegaaa.Lf
open Go Go.RowKit Go.Proofs.Ytlpoepmipbegaaa.En Go.Proofs.Ytlpoepmipbegaaa.Lm Go.Proofs.Ytlpoepmipbegaaa.Lb
/-- The bytes of some cells. -/
def encCells : List Pr → List UInt8
  | [] => []
  | p :: r => UInt8.ofNat p.1.size :: UInt8.ofNat p.2.size :: (p.1.data.toList ++ p.2.data.toList) ++ encCells r
def tagB (br : Bool) : UInt8 := if br then 2 else 1
def encHdr (N : Nd) : List UInt8 := [tagB N.br, UInt8.ofNat N.cs.length] ++ (if N.br then (four4 N.first).data.toList else [])
def encBytes (N : Nd) : List UInt8 := (encHdr N ++ encCells N.cs) ++ List.replicate (256 - (encHdr N ++ encCells N.cs).length) 0
def encodeF (N : Nd) : ByteArray × Int := if N.right = false then (emptyB, 2) else if 256 < N.size then (emptyB, 14) else (⟨(encBytes N).toArray⟩, 0)
theorem encCells_length : ∀ ps : List Pr, ((encCells ps).length : Int) = sz ps
  | [] => rfl
  | p :: r => by
    have ih := encCells_length r
    have h1 : p.1.data.toList.length = p.1.size := Array.length_toList
    have h2 : p.2.data.toList.length = p.2.size := Array.length_toList
    simp only [encCells, List.length_cons, List.length_append, sz, List.cons_append]
    omega
theorem encCells_append : ∀ a b : List Pr, encCells (a ++ b) = encCells a ++ encCells b
  | [], b => rfl
  | p :: r, b => by simp [encCells, encCells_append r b]
theorem encCells_take {ps : List Pr} {k : Nat} {p : Pr} (h : ps[k]? = some p) : encCells (ps.take (k + 1)) = encCells (ps.take k) ++ [UInt8.ofNat p.1.size] ++ [UInt8.ofNat p.2.size] ++ p.1.data.toList ++ p.2.data.toList := by
  have hk : k < ps.length := (List.getElem?_eq_some_iff.1 h).1
  have hp : ps[k] = p := (List.getElem?_eq_some_iff.1 h).2
  rw [List.take_add_one, h, encCells_append]
  simp [encCells]
theorem four4_length (n : Int) : (four4 n).data.toList.length = 4 := by simp [four4, strOfNums]
theorem encHdr_length (N : Nd) : ((encHdr N).length : Int) = if N.br then 6 else 2 := by
  unfold encHdr
  have h4 := four4_length N.first
  cases N.br
  · rfl
  · simp only [if_true, List.length_append, List.length_cons, List.length_nil, h4]
    rfl
theorem enc_size (N : Nd) : ((encHdr N ++ encCells N.cs).length : Int) = N.size := by
  have h1 := encHdr_length N
  have h2 := encCells_length N.cs
  rw [List.length_append]
  unfold Nd.size
  omega
theorem u8s_append (a b : List UInt8) : u8s (a ++ b) = u8s a ++ u8s b := by simp [u8s]
theorem u8_nat (k : Nat) : Value.int .u8 ((k : Int) % 256) = Value.int .u8 ((UInt8.ofNat k).toNat : Int) := by
  congr 1
theorem strCells_u8s (s : ByteArray) : Lib.strCells s = u8s s.data.toList := rfl
theorem head_not {w0 w : World} {F : List Nat} {x : Asn} {L : List Asn} {b : Nat} (h : Own w0 F (x :: L) w) (hb : x.blk = some b) (is : List Nat) : b ∉ fb (pick L is) := by
  have h1 := h.nd
  rw [List.filterMap_cons_some hb] at h1
  intro hm
  obtain ⟨y, hy, hyb⟩ := List.mem_filterMap.1 hm
  obtain ⟨i, _, e⟩ := mem_pick hy
  exact (List.nodup_cons.1 h1).1 (List.mem_filterMap.2 ⟨y, List.mem_of_getElem? e, hyb⟩)
/-- A builder of the caller's own that holds the bytes l. -/
abbrev BL (b : Nat) (p A : Option Addr) (cap : Nat) (l : List UInt8) : List Asn := bld b p A l.length cap (u8s l)
theorem u8s_length (l : List UInt8) : (u8s l).length = l.length := List.length_map _
theorem WB_ (b : Nat) (p A : Option Addr) (cap : Nat) (l : List UInt8) (x : UInt8) (w : World) (hp : p = none ∨ p = me b) (hk : SlOk A l.length cap 1 (u8s l)) (hO : Own w (fb (BL b p A cap l)) (BL b p A cap l) w) (hn : l.length + 1 ≤ 140737488355328) :
    Calls Try.prog 18 #[.pointer (me b), .int .u8 x.toNat] w fun en w1 => ∃ r, en = .returned r ∧ (r = .nilIface ∧ ∃ A' cap', SlOk A' (l ++ [x]).length cap' 1 (u8s (l ++ [x])) ∧ Own w (fb (BL b p A cap l)) (BL b (me b) A' cap' (l ++ [x])) w1) := by
  have h := WriteByte_ b p A l.length cap (u8s l) x.toNat w hp hk hO hn
  have e1 : u8s l ++ [.int .u8 (x.toNat : Int)] = u8s (l ++ [x]) := by rw [u8s_append]; rfl
  have e2 : l.length + 1 = (l ++ [x]).length := by simp
  rw [e1, e2] at h
  exact h
theorem WS_ (b : Nat) (p A : Option Addr) (cap : Nat) (l : List UInt8) (t : ByteArray) (w : World) (hp : p = none ∨ p = me b) (hk : SlOk A l.length cap 1 (u8s l)) (hO : Own w (fb (BL b p A cap l)) (BL b p A cap l) w) (hn : l.length + t.size ≤ 140737488355328) :
    Calls Try.prog 19 #[.pointer (me b), .string t] w fun en w1 => ∃ r, en = .returned r ∧ (r = .tuple #[.int .i64 t.size, .nilIface] ∧ ∃ A' cap', SlOk A' (l ++ t.data.toList).length cap' 1 (u8s (l ++ t.data.toList)) ∧ Own w (fb (BL b p A cap l)) (BL b (me b) A' cap' (l ++ t.data.toList)) w1) := by
  have h := WriteString_ b p A l.length cap (u8s l) t w hp hk hO hn
  have e2 : l.length + t.size = (l ++ t.data.toList).length := by
    have : t.data.toList.length = t.size := Array.length_toList
    rw [List.length_append, this]
  rw [strCells_u8s, ← u8s_append, e2] at h
  exact h
theorem WW_ (b : Nat) (p A : Option Addr) (cap : Nat) (l : List UInt8) (B : Option Addr) (c : Nat) (z : List UInt8) (w : World) (hp : p = none ∨ p = me b) (hk : SlOk A l.length cap 1 (u8s l)) (hO : Own w (fb (BL b p A cap l)) (BL b p A cap l) w) (hr : Rd w B z.length 1 (u8s z)) (hF : ∀ a, B = some a → a.block ∉ fb (BL b p A cap l)) (hn : l.length + z.length ≤ 140737488355328) :
    Calls Try.prog 21 #[.pointer (me b), .slice B z.length c] w fun en w1 => ∃ r, en = .returned r ∧ (r = .tuple #[.int .i64 z.length, .nilIface] ∧ ∃ A' cap', SlOk A' (l ++ z).length cap' 1 (u8s (l ++ z)) ∧ Own w (fb (BL b p A cap l)) (BL b (me b) A' cap' (l ++ z)) w1) := by
  have h := Write_ b p A l.length cap (u8s l) B z.length c (u8s z) w hp hk hO hr hF (fun u hu => by obtain ⟨_, _, rfl⟩ := List.mem_map.1 hu; rfl) hn
  rw [← u8s_append, ← List.length_append] at h
  exact h
set_option maxHeartbeats 8000000 in
set_option maxRecDepth 20000 in
theorem Encode_ (N : Nd) (A : Option Addr) (c : Nat) (w : World) (hr : Rd w A N.cs.length 2 (fl N.cs)) (hsz : ∀ p ∈ N.cs, p.1.size ≤ maxLen ∧ p.2.size ≤ maxLen) :
    Calls Try.prog 10 #[N.val A c] w fun en w1 => ∃ r, en = .returned r ∧ (r = .tuple #[.string (encodeF N).1, .int .i64 (encodeF N).2] ∧ Own w [] [] w1) := by
  refine fn_enter (args := [_]) (F := []) Try.func10 rfl rfl rfl ?_
  have u26 := Try.underlying26; have z26 := Ty.z26; have i26 := Ty.i26; have p26 := Ty.p26; have q26_0 := Ty.q26_0; have q26_1 := Ty.q26_1; have q26_2 := Ty.q26_2; have u22 := Try.underlying22; have z22 := Ty.z22; have i22 := Ty.i22; have u36 := Try.underlying36; have z36 := Ty.z36; have i36 := Ty.i36; have p36 := Ty.p36; have q36_0 := Ty.q36_0; have q36_1 := Ty.q36_1; have u9 := Try.underlying9; have z9 := Ty.z9; have i9 := Ty.i9; have u3 := Try.underlying3; have z3 := Ty.z3; have i3 := Ty.i3; have u4 := Try.underlying4; have z4 := Ty.z4; have i4 := Ty.i4; have u5 := Try.underlying5; have z5 := Ty.z5; have i5 := Ty.i5; have u34 := Try.underlying34; have z34 := Ty.z34; have i34 := Ty.i34; have u49 := Try.underlying49; have z49 := Ty.z49; have i49 := Ty.i49; have p49 := Ty.p49; have q49_0 := Ty.q49_0; have q49_1 := Ty.q49_1; have u47 := Try.underlying47; have z47 := Ty.z47; have i47 := Ty.i47
  have hnn : N.cs.length ≤ maxLen := hr.2.1
  refine x_seq ?_
  repeat (first
    | refine x_region ?_ | refine x_nil ?_ | refine x_tend ?_
    | refine x_off rfl rfl ?_ | refine x_off0 rfl ?_
    | refine x_op rfl (x_val (r_move rfl) rfl ?_)
    | refine x_op rfl (x_val (r_assign rfl) rfl ?_)
    | refine x_op rfl (x_val (r_extract rfl rfl) rfl ?_)
    | refine x_op rfl (x_val (r_pick_t rfl rfl) rfl ?_)
    | refine x_op rfl (x_val (r_pick_f rfl rfl) rfl ?_)
    | refine x_op rfl (x_val (r_fieldAddr (by assumption) rfl) rfl ?_)
    | refine x_op rfl (x_val (by first | exact r_own_add (i := 0) (by assumption) rfl rfl rfl | exact r_own_add (i := 1) (by assumption) rfl rfl rfl | exact r_own_add (i := 2) (by assumption) rfl rfl rfl | exact r_own_add (i := 3) (by assumption) rfl rfl rfl | exact r_own_add (i := 4) (by assumption) rfl rfl rfl | exact r_own_add (i := 5) (by assumption) rfl rfl rfl | exact r_own (i := 0) (by assumption) rfl rfl rfl | exact r_own (i := 1) (by assumption) rfl rfl rfl | exact r_own (i := 2) (by assumption) rfl rfl rfl | exact r_own (i := 3) (by assumption) rfl rfl rfl | exact r_own (i := 4) (by assumption) rfl rfl rfl | exact r_own (i := 5) (by assumption) rfl rfl rfl) rfl ?_)
    | refine x_op rfl (x_val (r_len_string (by assumption) rfl) rfl ?_)
    | refine x_op rfl (x_val (r_len_slice (by assumption) rfl) rfl ?_)
    | refine x_op rfl (x_val (r_cap_slice (by assumption) rfl) rfl ?_)
    | refine x_op rfl (x_val (r_not rfl rfl) rfl ?_)
    | refine x_op rfl (x_val (r_add rfl rfl ⟨by omega, by omega⟩) rfl ?_)
    | refine x_op rfl (x_val (r_sub rfl rfl ⟨by omega, by omega⟩) rfl ?_)
    | refine x_op rfl (x_val (r_build (by assumption) (by assumption) rfl rfl) rfl ?_)
    | refine x_op rfl (x_val (r_nilCheck rfl) rfl ?_)
    | refine x_op rfl (x_val (r_lss (r := true) rfl rfl (decide_eq_true (by omega))) rfl ?_)
    | refine x_op rfl (x_val (r_lss (r := false) rfl rfl (decide_eq_false (by omega))) rfl ?_)
    | refine x_op rfl (x_val (r_leq (r := true) rfl rfl (decide_eq_true (by omega))) rfl ?_)
    | refine x_op rfl (x_val (r_leq (r := false) rfl rfl (decide_eq_false (by omega))) rfl ?_)
    | refine x_op rfl (x_val (r_gtr (r := true) rfl rfl (decide_eq_true (by omega))) rfl ?_)
    | refine x_op rfl (x_val (r_gtr (r := false) rfl rfl (decide_eq_false (by omega))) rfl ?_)
    | refine x_op rfl (x_val (r_geq (r := true) rfl rfl (decide_eq_true (by omega))) rfl ?_)
    | refine x_op rfl (x_val (r_geq (r := false) rfl rfl (decide_eq_false (by omega))) rfl ?_)
    | refine x_op rfl (x_val (r_eql (r := true) rfl rfl (decide_eq_true (by omega))) rfl ?_)
    | refine x_op rfl (x_val (r_eql (r := false) rfl rfl (decide_eq_false (by omega))) rfl ?_)
    | refine x_op rfl (x_val (r_neq (r := true) rfl rfl (decide_eq_true (by omega))) rfl ?_)
    | refine x_op rfl (x_val (r_neq (r := false) rfl rfl (decide_eq_false (by omega))) rfl ?_)
    | refine x_op rfl (x_val (by first | exact r_ownN (i := 0) (by assumption) rfl rfl rfl | exact r_ownN (i := 1) (by assumption) rfl rfl rfl | exact r_ownN (i := 2) (by assumption) rfl rfl rfl | exact r_ownN (i := 3) (by assumption) rfl rfl rfl | exact r_ownN (i := 4) (by assumption) rfl rfl rfl | exact r_ownN (i := 5) (by assumption) rfl rfl rfl) rfl ?_)
    | refine x_op rfl (s_store (i := 0) (by assumption) rfl rfl rfl rfl rfl rfl ?_)
    | refine x_op rfl (s_store (i := 1) (by assumption) rfl rfl rfl rfl rfl rfl ?_)
    | refine x_op rfl (s_store (i := 2) (by assumption) rfl rfl rfl rfl rfl rfl ?_)
    | refine x_op rfl (s_store (i := 3) (by assumption) rfl rfl rfl rfl rfl rfl ?_)
    | refine x_op rfl (s_store (i := 4) (by assumption) rfl rfl rfl rfl rfl rfl ?_)
    | refine x_op rfl (s_store (i := 5) (by assumption) rfl rfl rfl rfl rfl rfl ?_)
    | refine x_op rfl (s_box rfl rfl fun b hb => ?_) | refine x_op rfl (s_alloc (by assumption) rfl fun b hb => ?_))
  obtain ⟨b1, hbb⟩ : ∃ x, x = b := ⟨b, rfl⟩; subst hbb
  refine x_cut (σ := Unit) (fun _ => [(1, .pointer (some ⟨b1, 0, none⟩))]) (fun _ => [bl b1 26 #[.bool N.br, .int .i64 N.first, .slice A N.cs.length c]]) (fun _ => N.right = true ∧ ¬ 256 < N.size) ?_ (fun _ hI => ?_)
  · repeat (first
    | refine x_seq ?_ | refine x_region ?_ | refine x_nil ?_ | refine x_block ?_ | refine x_skip ?_ | refine x_exit rfl ?_ | refine x_true rfl ?_ | refine x_false rfl ?_ | refine x_ret ?_ | refine x_tend ?_
    | refine x_off rfl rfl ?_ | refine x_off0 rfl ?_
    | refine x_op rfl (x_val (r_move rfl) rfl ?_)
    | refine x_op rfl (x_val (r_assign rfl) rfl ?_)
    | refine x_op rfl (x_val (r_extract rfl rfl) rfl ?_)
    | refine x_op rfl (x_val (r_pick_t rfl rfl) rfl ?_)
    | refine x_op rfl (x_val (r_pick_f rfl rfl) rfl ?_)
    | refine x_op rfl (x_val (r_fieldAddr (by assumption) rfl) rfl ?_)
    | refine x_op rfl (x_val (by first | exact r_own_add (i := 0) (by assumption) rfl rfl rfl | exact r_own_add (i := 1) (by assumption) rfl rfl rfl | exact r_own_add (i := 2) (by assumption) rfl rfl rfl | exact r_own_add (i := 3) (by assumption) rfl rfl rfl | exact r_own_add (i := 4) (by assumption) rfl rfl rfl | exact r_own_add (i := 5) (by assumption) rfl rfl rfl | exact r_own (i := 0) (by assumption) rfl rfl rfl | exact r_own (i := 1) (by assumption) rfl rfl rfl | exact r_own (i := 2) (by assumption) rfl rfl rfl | exact r_own (i := 3) (by assumption) rfl rfl rfl | exact r_own (i := 4) (by assumption) rfl rfl rfl | exact r_own (i := 5) (by assumption) rfl rfl rfl) rfl ?_)
    | refine x_op rfl (x_val (r_len_string (by assumption) rfl) rfl ?_)
    | refine x_op rfl (x_val (r_len_slice (by assumption) rfl) rfl ?_)
    | refine x_op rfl (x_val (r_cap_slice (by assumption) rfl) rfl ?_)
    | refine x_op rfl (x_val (r_not rfl rfl) rfl ?_)
    | refine x_op rfl (x_val (r_add rfl rfl ⟨by omega, by omega⟩) rfl ?_)
    | refine x_op rfl (x_val (r_sub rfl rfl ⟨by omega, by omega⟩) rfl ?_)
    | refine x_op rfl (x_val (r_build (by assumption) (by assumption) rfl rfl) rfl ?_)
    | refine x_op rfl (x_val (r_nilCheck rfl) rfl ?_)
    | refine x_op rfl (x_val (r_lss (r := true) rfl rfl (decide_eq_true (by omega))) rfl ?_)
    | refine x_op rfl (x_val (r_lss (r := false) rfl rfl (decide_eq_false (by omega))) rfl ?_)
    | refine x_op rfl (x_val (r_leq (r := true) rfl rfl (decide_eq_true (by omega))) rfl ?_)
    | refine x_op rfl (x_val (r_leq (r := false) rfl rfl (decide_eq_false (by omega))) rfl ?_)
    | refine x_op rfl (x_val (r_gtr (r := true) rfl rfl (decide_eq_true (by omega))) rfl ?_)
    | refine x_op rfl (x_val (r_gtr (r := false) rfl rfl (decide_eq_false (by omega))) rfl ?_)
    | refine x_op rfl (x_val (r_geq (r := true) rfl rfl (decide_eq_true (by omega))) rfl ?_)
    | refine x_op rfl (x_val (r_geq (r := false) rfl rfl (decide_eq_false (by omega))) rfl ?_)
    | refine x_op rfl (x_val (r_eql (r := true) rfl rfl (decide_eq_true (by omega))) rfl ?_)
    | refine x_op rfl (x_val (r_eql (r := false) rfl rfl (decide_eq_false (by omega))) rfl ?_)
    | refine x_op rfl (x_val (r_neq (r := true) rfl rfl (decide_eq_true (by omega))) rfl ?_)
    | refine x_op rfl (x_val (r_neq (r := false) rfl rfl (decide_eq_false (by omega))) rfl ?_)
    | refine x_op rfl (x_val (by first | exact r_ownN (i := 0) (by assumption) rfl rfl rfl | exact r_ownN (i := 1) (by assumption) rfl rfl rfl | exact r_ownN (i := 2) (by assumption) rfl rfl rfl | exact r_ownN (i := 3) (by assumption) rfl rfl rfl | exact r_ownN (i := 4) (by assumption) rfl rfl rfl | exact r_ownN (i := 5) (by assumption) rfl rfl rfl) rfl ?_)
    | refine x_op rfl (s_store (i := 0) (by assumption) rfl rfl rfl rfl rfl rfl ?_)
    | refine x_op rfl (s_store (i := 1) (by assumption) rfl rfl rfl rfl rfl rfl ?_)
    | refine x_op rfl (s_store (i := 2) (by assumption) rfl rfl rfl rfl rfl rfl ?_)
    | refine x_op rfl (s_store (i := 3) (by assumption) rfl rfl rfl rfl rfl rfl ?_)
    | refine x_op rfl (s_store (i := 4) (by assumption) rfl rfl rfl rfl rfl rfl ?_)
    | refine x_op rfl (s_store (i := 5) (by assumption) rfl rfl rfl rfl rfl rfl ?_)
    | refine x_op rfl (s_box rfl rfl fun b hb => ?_) | refine x_op rfl (s_alloc (by assumption) rfl fun b hb => ?_))
    refine x_op rfl (s_call Ty.c11 rfl rfl (fun w hw => right_ N.br N.first A N.cs.length c N.cs w (hw.rd0 hr) hsz) (fun wq v wq1 hw h => ?_)); obtain ⟨rfl, hO⟩ := h; refine ⟨_, hw.call0 hO, ?_⟩
    cases hR : rightB N.br N.first N.cs
    · repeat (first
    | refine x_seq ?_ | refine x_region ?_ | refine x_nil ?_ | refine x_block ?_ | refine x_skip ?_ | refine x_exit rfl ?_ | refine x_true rfl ?_ | refine x_false rfl ?_ | refine x_ret ?_ | refine x_tend ?_
    | refine x_off rfl rfl ?_ | refine x_off0 rfl ?_
    | refine x_op rfl (x_val (r_move rfl) rfl ?_)
    | refine x_op rfl (x_val (r_assign rfl) rfl ?_)
    | refine x_op rfl (x_val (r_extract rfl rfl) rfl ?_)
    | refine x_op rfl (x_val (r_pick_t rfl rfl) rfl ?_)
    | refine x_op rfl (x_val (r_pick_f rfl rfl) rfl ?_)
    | refine x_op rfl (x_val (r_fieldAddr (by assumption) rfl) rfl ?_)
    | refine x_op rfl (x_val (by first | exact r_own_add (i := 0) (by assumption) rfl rfl rfl | exact r_own_add (i := 1) (by assumption) rfl rfl rfl | exact r_own_add (i := 2) (by assumption) rfl rfl rfl | exact r_own_add (i := 3) (by assumption) rfl rfl rfl | exact r_own_add (i := 4) (by assumption) rfl rfl rfl | exact r_own_add (i := 5) (by assumption) rfl rfl rfl | exact r_own (i := 0) (by assumption) rfl rfl rfl | exact r_own (i := 1) (by assumption) rfl rfl rfl | exact r_own (i := 2) (by assumption) rfl rfl rfl | exact r_own (i := 3) (by assumption) rfl rfl rfl | exact r_own (i := 4) (by assumption) rfl rfl rfl | exact r_own (i := 5) (by assumption) rfl rfl rfl) rfl ?_)
    | refine x_op rfl (x_val (r_len_string (by assumption) rfl) rfl ?_)
    | refine x_op rfl (x_val (r_len_slice (by assumption) rfl) rfl ?_)
    | refine x_op rfl (x_val (r_cap_slice (by assumption) rfl) rfl ?_)
    | refine x_op rfl (x_val (r_not rfl rfl) rfl ?_)
    | refine x_op rfl (x_val (r_add rfl rfl ⟨by omega, by omega⟩) rfl ?_)
    | refine x_op rfl (x_val (r_sub rfl rfl ⟨by omega, by omega⟩) rfl ?_)
    | refine x_op rfl (x_val (r_build (by assumption) (by assumption) rfl rfl) rfl ?_)
    | refine x_op rfl (x_val (r_nilCheck rfl) rfl ?_)
    | refine x_op rfl (x_val (r_lss (r := true) rfl rfl (decide_eq_true (by omega))) rfl ?_)
    | refine x_op rfl (x_val (r_lss (r := false) rfl rfl (decide_eq_false (by omega))) rfl ?_)
    | refine x_op rfl (x_val (r_leq (r := true) rfl rfl (decide_eq_true (by omega))) rfl ?_)
    | refine x_op rfl (x_val (r_leq (r := false) rfl rfl (decide_eq_false (by omega))) rfl ?_)
    | refine x_op rfl (x_val (r_gtr (r := true) rfl rfl (decide_eq_true (by omega))) rfl ?_)
    | refine x_op rfl (x_val (r_gtr (r := false) rfl rfl (decide_eq_false (by omega))) rfl ?_)
    | refine x_op rfl (x_val (r_geq (r := true) rfl rfl (decide_eq_true (by omega))) rfl ?_)
    | refine x_op rfl (x_val (r_geq (r := false) rfl rfl (decide_eq_false (by omega))) rfl ?_)
    | refine x_op rfl (x_val (r_eql (r := true) rfl rfl (decide_eq_true (by omega))) rfl ?_)
    | refine x_op rfl (x_val (r_eql (r := false) rfl rfl (decide_eq_false (by omega))) rfl ?_)
    | refine x_op rfl (x_val (r_neq (r := true) rfl rfl (decide_eq_true (by omega))) rfl ?_)
    | refine x_op rfl (x_val (r_neq (r := false) rfl rfl (decide_eq_false (by omega))) rfl ?_)
    | refine x_op rfl (x_val (by first | exact r_ownN (i := 0) (by assumption) rfl rfl rfl | exact r_ownN (i := 1) (by assumption) rfl rfl rfl | exact r_ownN (i := 2) (by assumption) rfl rfl rfl | exact r_ownN (i := 3) (by assumption) rfl rfl rfl | exact r_ownN (i := 4) (by assumption) rfl rfl rfl | exact r_ownN (i := 5) (by assumption) rfl rfl rfl) rfl ?_)
    | refine x_op rfl (s_store (i := 0) (by assumption) rfl rfl rfl rfl rfl rfl ?_)
    | refine x_op rfl (s_store (i := 1) (by assumption) rfl rfl rfl rfl rfl rfl ?_)
    | refine x_op rfl (s_store (i := 2) (by assumption) rfl rfl rfl rfl rfl rfl ?_)
    | refine x_op rfl (s_store (i := 3) (by assumption) rfl rfl rfl rfl rfl rfl ?_)
    | refine x_op rfl (s_store (i := 4) (by assumption) rfl rfl rfl rfl rfl rfl ?_)
    | refine x_op rfl (s_store (i := 5) (by assumption) rfl rfl rfl rfl rfl rfl ?_)
    | refine x_op rfl (s_box rfl rfl fun b hb => ?_) | refine x_op rfl (s_alloc (by assumption) rfl fun b hb => ?_))
      exact x_rets (rs := []) (vs := []) rfl ⟨rfl, rfl, trivial⟩ fun w1 hO => ⟨_, rfl, by simp [encodeF, Nd.right, hR, emptyB], hO.none_⟩
    · have hsm := right_small (N := N) hR
      have hsp := right_spec (N := N) hR
      repeat (first
    | refine x_seq ?_ | refine x_region ?_ | refine x_nil ?_ | refine x_block ?_ | refine x_skip ?_ | refine x_exit rfl ?_ | refine x_true rfl ?_ | refine x_false rfl ?_ | refine x_ret ?_ | refine x_tend ?_
    | refine x_off rfl rfl ?_ | refine x_off0 rfl ?_
    | refine x_op rfl (x_val (r_move rfl) rfl ?_)
    | refine x_op rfl (x_val (r_assign rfl) rfl ?_)
    | refine x_op rfl (x_val (r_extract rfl rfl) rfl ?_)
    | refine x_op rfl (x_val (r_pick_t rfl rfl) rfl ?_)
    | refine x_op rfl (x_val (r_pick_f rfl rfl) rfl ?_)
    | refine x_op rfl (x_val (r_fieldAddr (by assumption) rfl) rfl ?_)
    | refine x_op rfl (x_val (by first | exact r_own_add (i := 0) (by assumption) rfl rfl rfl | exact r_own_add (i := 1) (by assumption) rfl rfl rfl | exact r_own_add (i := 2) (by assumption) rfl rfl rfl | exact r_own_add (i := 3) (by assumption) rfl rfl rfl | exact r_own_add (i := 4) (by assumption) rfl rfl rfl | exact r_own_add (i := 5) (by assumption) rfl rfl rfl | exact r_own (i := 0) (by assumption) rfl rfl rfl | exact r_own (i := 1) (by assumption) rfl rfl rfl | exact r_own (i := 2) (by assumption) rfl rfl rfl | exact r_own (i := 3) (by assumption) rfl rfl rfl | exact r_own (i := 4) (by assumption) rfl rfl rfl | exact r_own (i := 5) (by assumption) rfl rfl rfl) rfl ?_)
    | refine x_op rfl (x_val (r_len_string (by assumption) rfl) rfl ?_)
    | refine x_op rfl (x_val (r_len_slice (by assumption) rfl) rfl ?_)
    | refine x_op rfl (x_val (r_cap_slice (by assumption) rfl) rfl ?_)
    | refine x_op rfl (x_val (r_not rfl rfl) rfl ?_)
    | refine x_op rfl (x_val (r_add rfl rfl ⟨by omega, by omega⟩) rfl ?_)
    | refine x_op rfl (x_val (r_sub rfl rfl ⟨by omega, by omega⟩) rfl ?_)
    | refine x_op rfl (x_val (r_build (by assumption) (by assumption) rfl rfl) rfl ?_)
    | refine x_op rfl (x_val (r_nilCheck rfl) rfl ?_)
    | refine x_op rfl (x_val (r_lss (r := true) rfl rfl (decide_eq_true (by omega))) rfl ?_)
    | refine x_op rfl (x_val (r_lss (r := false) rfl rfl (decide_eq_false (by omega))) rfl ?_)
    | refine x_op rfl (x_val (r_leq (r := true) rfl rfl (decide_eq_true (by omega))) rfl ?_)
    | refine x_op rfl (x_val (r_leq (r := false) rfl rfl (decide_eq_false (by omega))) rfl ?_)
    | refine x_op rfl (x_val (r_gtr (r := true) rfl rfl (decide_eq_true (by omega))) rfl ?_)
    | refine x_op rfl (x_val (r_gtr (r := false) rfl rfl (decide_eq_false (by omega))) rfl ?_)
    | refine x_op rfl (x_val (r_geq (r := true) rfl rfl (decide_eq_true (by omega))) rfl ?_)
    | refine x_op rfl (x_val (r_geq (r := false) rfl rfl (decide_eq_false (by omega))) rfl ?_)
    | refine x_op rfl (x_val (r_eql (r := true) rfl rfl (decide_eq_true (by omega))) rfl ?_)
    | refine x_op rfl (x_val (r_eql (r := false) rfl rfl (decide_eq_false (by omega))) rfl ?_)
    | refine x_op rfl (x_val (r_neq (r := true) rfl rfl (decide_eq_true (by omega))) rfl ?_)
    | refine x_op rfl (x_val (r_neq (r := false) rfl rfl (decide_eq_false (by omega))) rfl ?_)
    | refine x_op rfl (x_val (by first | exact r_ownN (i := 0) (by assumption) rfl rfl rfl | exact r_ownN (i := 1) (by assumption) rfl rfl rfl | exact r_ownN (i := 2) (by assumption) rfl rfl rfl | exact r_ownN (i := 3) (by assumption) rfl rfl rfl | exact r_ownN (i := 4) (by assumption) rfl rfl rfl | exact r_ownN (i := 5) (by assumption) rfl rfl rfl) rfl ?_)
    | refine x_op rfl (s_store (i := 0) (by assumption) rfl rfl rfl rfl rfl rfl ?_)
    | refine x_op rfl (s_store (i := 1) (by assumption) rfl rfl rfl rfl rfl rfl ?_)
    | refine x_op rfl (s_store (i := 2) (by assumption) rfl rfl rfl rfl rfl rfl ?_)
    | refine x_op rfl (s_store (i := 3) (by assumption) rfl rfl rfl rfl rfl rfl ?_)
    | refine x_op rfl (s_store (i := 4) (by assumption) rfl rfl rfl rfl rfl rfl ?_)
    | refine x_op rfl (s_store (i := 5) (by assumption) rfl rfl rfl rfl rfl rfl ?_)
    | refine x_op rfl (s_box rfl rfl fun b hb => ?_) | refine x_op rfl (s_alloc (by assumption) rfl fun b hb => ?_))
      refine x_op rfl (s_call Ty.c17 rfl rfl (fun w hw => Size_ N.br N.first A N.cs.length c N.cs w (hw.rd0 hr) hsm (by omega)) (fun wq v wq1 hw h => ?_)); obtain ⟨rfl, hO⟩ := h; refine ⟨_, hw.call0 hO, ?_⟩
      refine x_op rfl (x_val (r_gtr rfl rfl rfl) rfl (x_dec (fun hb => ?_) (fun hb => ?_)))
      · have hb' : 256 < N.size := hb
        repeat (first
    | refine x_seq ?_ | refine x_region ?_ | refine x_nil ?_ | refine x_block ?_ | refine x_skip ?_ | refine x_exit rfl ?_ | refine x_true rfl ?_ | refine x_false rfl ?_ | refine x_ret ?_ | refine x_tend ?_
    | refine x_off rfl rfl ?_ | refine x_off0 rfl ?_
    | refine x_op rfl (x_val (r_move rfl) rfl ?_)
    | refine x_op rfl (x_val (r_assign rfl) rfl ?_)
    | refine x_op rfl (x_val (r_extract rfl rfl) rfl ?_)
    | refine x_op rfl (x_val (r_pick_t rfl rfl) rfl ?_)
    | refine x_op rfl (x_val (r_pick_f rfl rfl) rfl ?_)
    | refine x_op rfl (x_val (r_fieldAddr (by assumption) rfl) rfl ?_)
    | refine x_op rfl (x_val (by first | exact r_own_add (i := 0) (by assumption) rfl rfl rfl | exact r_own_add (i := 1) (by assumption) rfl rfl rfl | exact r_own_add (i := 2) (by assumption) rfl rfl rfl | exact r_own_add (i := 3) (by assumption) rfl rfl rfl | exact r_own_add (i := 4) (by assumption) rfl rfl rfl | exact r_own_add (i := 5) (by assumption) rfl rfl rfl | exact r_own (i := 0) (by assumption) rfl rfl rfl | exact r_own (i := 1) (by assumption) rfl rfl rfl | exact r_own (i := 2) (by assumption) rfl rfl rfl | exact r_own (i := 3) (by assumption) rfl rfl rfl | exact r_own (i := 4) (by assumption) rfl rfl rfl | exact r_own (i := 5) (by assumption) rfl rfl rfl) rfl ?_)
    | refine x_op rfl (x_val (r_len_string (by assumption) rfl) rfl ?_)
    | refine x_op rfl (x_val (r_len_slice (by assumption) rfl) rfl ?_)
    | refine x_op rfl (x_val (r_cap_slice (by assumption) rfl) rfl ?_)
    | refine x_op rfl (x_val (r_not rfl rfl) rfl ?_)
    | refine x_op rfl (x_val (r_add rfl rfl ⟨by omega, by omega⟩) rfl ?_)
    | refine x_op rfl (x_val (r_sub rfl rfl ⟨by omega, by omega⟩) rfl ?_)
    | refine x_op rfl (x_val (r_build (by assumption) (by assumption) rfl rfl) rfl ?_)
    | refine x_op rfl (x_val (r_nilCheck rfl) rfl ?_)
    | refine x_op rfl (x_val (r_lss (r := true) rfl rfl (decide_eq_true (by omega))) rfl ?_)
    | refine x_op rfl (x_val (r_lss (r := false) rfl rfl (decide_eq_false (by omega))) rfl ?_)
    | refine x_op rfl (x_val (r_leq (r := true) rfl rfl (decide_eq_true (by omega))) rfl ?_)
    | refine x_op rfl (x_val (r_leq (r := false) rfl rfl (decide_eq_false (by omega))) rfl ?_)
    | refine x_op rfl (x_val (r_gtr (r := true) rfl rfl (decide_eq_true (by omega))) rfl ?_)
    | refine x_op rfl (x_val (r_gtr (r := false) rfl rfl (decide_eq_false (by omega))) rfl ?_)
    | refine x_op rfl (x_val (r_geq (r := true) rfl rfl (decide_eq_true (by omega))) rfl ?_)
    | refine x_op rfl (x_val (r_geq (r := false) rfl rfl (decide_eq_false (by omega))) rfl ?_)
    | refine x_op rfl (x_val (r_eql (r := true) rfl rfl (decide_eq_true (by omega))) rfl ?_)
    | refine x_op rfl (x_val (r_eql (r := false) rfl rfl (decide_eq_false (by omega))) rfl ?_)
    | refine x_op rfl (x_val (r_neq (r := true) rfl rfl (decide_eq_true (by omega))) rfl ?_)
    | refine x_op rfl (x_val (r_neq (r := false) rfl rfl (decide_eq_false (by omega))) rfl ?_)
    | refine x_op rfl (x_val (by first | exact r_ownN (i := 0) (by assumption) rfl rfl rfl | exact r_ownN (i := 1) (by assumption) rfl rfl rfl | exact r_ownN (i := 2) (by assumption) rfl rfl rfl | exact r_ownN (i := 3) (by assumption) rfl rfl rfl | exact r_ownN (i := 4) (by assumption) rfl rfl rfl | exact r_ownN (i := 5) (by assumption) rfl rfl rfl) rfl ?_)
    | refine x_op rfl (s_store (i := 0) (by assumption) rfl rfl rfl rfl rfl rfl ?_)
    | refine x_op rfl (s_store (i := 1) (by assumption) rfl rfl rfl rfl rfl rfl ?_)
    | refine x_op rfl (s_store (i := 2) (by assumption) rfl rfl rfl rfl rfl rfl ?_)
    | refine x_op rfl (s_store (i := 3) (by assumption) rfl rfl rfl rfl rfl rfl ?_)
    | refine x_op rfl (s_store (i := 4) (by assumption) rfl rfl rfl rfl rfl rfl ?_)
    | refine x_op rfl (s_store (i := 5) (by assumption) rfl rfl rfl rfl rfl rfl ?_)
    | refine x_op rfl (s_box rfl rfl fun b hb => ?_) | refine x_op rfl (s_alloc (by assumption) rfl fun b hb => ?_))
        exact x_rets (rs := []) (vs := []) rfl ⟨rfl, rfl, trivial⟩ fun w1 hO => ⟨_, rfl, by simp [encodeF, Nd.right, hR, hb', emptyB], hO.none_⟩
      · have hb' : ¬ 256 < N.size := hb
        repeat (first
    | refine x_seq ?_ | refine x_region ?_ | refine x_nil ?_ | refine x_block ?_ | refine x_skip ?_ | refine x_exit rfl ?_ | refine x_true rfl ?_ | refine x_false rfl ?_ | refine x_ret ?_ | refine x_tend ?_
    | refine x_off rfl rfl ?_ | refine x_off0 rfl ?_
    | refine x_op rfl (x_val (r_move rfl) rfl ?_)
    | refine x_op rfl (x_val (r_assign rfl) rfl ?_)
    | refine x_op rfl (x_val (r_extract rfl rfl) rfl ?_)
    | refine x_op rfl (x_val (r_pick_t rfl rfl) rfl ?_)
    | refine x_op rfl (x_val (r_pick_f rfl rfl) rfl ?_)
    | refine x_op rfl (x_val (r_fieldAddr (by assumption) rfl) rfl ?_)
    | refine x_op rfl (x_val (by first | exact r_own_add (i := 0) (by assumption) rfl rfl rfl | exact r_own_add (i := 1) (by assumption) rfl rfl rfl | exact r_own_add (i := 2) (by assumption) rfl rfl rfl | exact r_own_add (i := 3) (by assumption) rfl rfl rfl | exact r_own_add (i := 4) (by assumption) rfl rfl rfl | exact r_own_add (i := 5) (by assumption) rfl rfl rfl | exact r_own (i := 0) (by assumption) rfl rfl rfl | exact r_own (i := 1) (by assumption) rfl rfl rfl | exact r_own (i := 2) (by assumption) rfl rfl rfl | exact r_own (i := 3) (by assumption) rfl rfl rfl | exact r_own (i := 4) (by assumption) rfl rfl rfl | exact r_own (i := 5) (by assumption) rfl rfl rfl) rfl ?_)
    | refine x_op rfl (x_val (r_len_string (by assumption) rfl) rfl ?_)
    | refine x_op rfl (x_val (r_len_slice (by assumption) rfl) rfl ?_)
    | refine x_op rfl (x_val (r_cap_slice (by assumption) rfl) rfl ?_)
    | refine x_op rfl (x_val (r_not rfl rfl) rfl ?_)
    | refine x_op rfl (x_val (r_add rfl rfl ⟨by omega, by omega⟩) rfl ?_)
    | refine x_op rfl (x_val (r_sub rfl rfl ⟨by omega, by omega⟩) rfl ?_)
    | refine x_op rfl (x_val (r_build (by assumption) (by assumption) rfl rfl) rfl ?_)
    | refine x_op rfl (x_val (r_nilCheck rfl) rfl ?_)
    | refine x_op rfl (x_val (r_lss (r := true) rfl rfl (decide_eq_true (by omega))) rfl ?_)
    | refine x_op rfl (x_val (r_lss (r := false) rfl rfl (decide_eq_false (by omega))) rfl ?_)
    | refine x_op rfl (x_val (r_leq (r := true) rfl rfl (decide_eq_true (by omega))) rfl ?_)
    | refine x_op rfl (x_val (r_leq (r := false) rfl rfl (decide_eq_false (by omega))) rfl ?_)
    | refine x_op rfl (x_val (r_gtr (r := true) rfl rfl (decide_eq_true (by omega))) rfl ?_)
    | refine x_op rfl (x_val (r_gtr (r := false) rfl rfl (decide_eq_false (by omega))) rfl ?_)
    | refine x_op rfl (x_val (r_geq (r := true) rfl rfl (decide_eq_true (by omega))) rfl ?_)
    | refine x_op rfl (x_val (r_geq (r := false) rfl rfl (decide_eq_false (by omega))) rfl ?_)
    | refine x_op rfl (x_val (r_eql (r := true) rfl rfl (decide_eq_true (by omega))) rfl ?_)
    | refine x_op rfl (x_val (r_eql (r := false) rfl rfl (decide_eq_false (by omega))) rfl ?_)
    | refine x_op rfl (x_val (r_neq (r := true) rfl rfl (decide_eq_true (by omega))) rfl ?_)
    | refine x_op rfl (x_val (r_neq (r := false) rfl rfl (decide_eq_false (by omega))) rfl ?_)
    | refine x_op rfl (x_val (by first | exact r_ownN (i := 0) (by assumption) rfl rfl rfl | exact r_ownN (i := 1) (by assumption) rfl rfl rfl | exact r_ownN (i := 2) (by assumption) rfl rfl rfl | exact r_ownN (i := 3) (by assumption) rfl rfl rfl | exact r_ownN (i := 4) (by assumption) rfl rfl rfl | exact r_ownN (i := 5) (by assumption) rfl rfl rfl) rfl ?_)
    | refine x_op rfl (s_store (i := 0) (by assumption) rfl rfl rfl rfl rfl rfl ?_)
    | refine x_op rfl (s_store (i := 1) (by assumption) rfl rfl rfl rfl rfl rfl ?_)
    | refine x_op rfl (s_store (i := 2) (by assumption) rfl rfl rfl rfl rfl rfl ?_)
    | refine x_op rfl (s_store (i := 3) (by assumption) rfl rfl rfl rfl rfl rfl ?_)
    | refine x_op rfl (s_store (i := 4) (by assumption) rfl rfl rfl rfl rfl rfl ?_)
    | refine x_op rfl (s_store (i := 5) (by assumption) rfl rfl rfl rfl rfl rfl ?_)
    | refine x_op rfl (s_box rfl rfl fun b hb => ?_) | refine x_op rfl (s_alloc (by assumption) rfl fun b hb => ?_))
        exact x_there () ⟨rfl, trivial⟩ (fun _ h => h) ⟨hR, hb'⟩
  obtain ⟨hN, hsize⟩ := hI
  have hsm := right_small hN
  have hsp := right_spec hN
  have hes := enc_size N
  have hfin : encodeF N = (⟨(encBytes N).toArray⟩, 0) := by simp [encodeF, hN, hsize]
  rw [hfin]
  clear hfin
  refine x_seq ?_
  repeat (first
    | refine x_region ?_ | refine x_nil ?_ | refine x_tend ?_
    | refine x_off rfl rfl ?_ | refine x_off0 rfl ?_
    | refine x_op rfl (x_val (r_move rfl) rfl ?_)
    | refine x_op rfl (x_val (r_assign rfl) rfl ?_)
    | refine x_op rfl (x_val (r_extract rfl rfl) rfl ?_)
    | refine x_op rfl (x_val (r_pick_t rfl rfl) rfl ?_)
    | refine x_op rfl (x_val (r_pick_f rfl rfl) rfl ?_)
    | refine x_op rfl (x_val (r_fieldAddr (by assumption) rfl) rfl ?_)
    | refine x_op rfl (x_val (by first | exact r_own_add (i := 0) (by assumption) rfl rfl rfl | exact r_own_add (i := 1) (by assumption) rfl rfl rfl | exact r_own_add (i := 2) (by assumption) rfl rfl rfl | exact r_own_add (i := 3) (by assumption) rfl rfl rfl | exact r_own_add (i := 4) (by assumption) rfl rfl rfl | exact r_own_add (i := 5) (by assumption) rfl rfl rfl | exact r_own (i := 0) (by assumption) rfl rfl rfl | exact r_own (i := 1) (by assumption) rfl rfl rfl | exact r_own (i := 2) (by assumption) rfl rfl rfl | exact r_own (i := 3) (by assumption) rfl rfl rfl | exact r_own (i := 4) (by assumption) rfl rfl rfl | exact r_own (i := 5) (by assumption) rfl rfl rfl) rfl ?_)
    | refine x_op rfl (x_val (r_len_string (by assumption) rfl) rfl ?_)
    | refine x_op rfl (x_val (r_len_slice (by assumption) rfl) rfl ?_)
    | refine x_op rfl (x_val (r_cap_slice (by assumption) rfl) rfl ?_)
    | refine x_op rfl (x_val (r_not rfl rfl) rfl ?_)
    | refine x_op rfl (x_val (r_add rfl rfl ⟨by omega, by omega⟩) rfl ?_)
    | refine x_op rfl (x_val (r_sub rfl rfl ⟨by omega, by omega⟩) rfl ?_)
    | refine x_op rfl (x_val (r_build (by assumption) (by assumption) rfl rfl) rfl ?_)
    | refine x_op rfl (x_val (r_nilCheck rfl) rfl ?_)
    | refine x_op rfl (x_val (r_lss (r := true) rfl rfl (decide_eq_true (by omega))) rfl ?_)
    | refine x_op rfl (x_val (r_lss (r := false) rfl rfl (decide_eq_false (by omega))) rfl ?_)
    | refine x_op rfl (x_val (r_leq (r := true) rfl rfl (decide_eq_true (by omega))) rfl ?_)
    | refine x_op rfl (x_val (r_leq (r := false) rfl rfl (decide_eq_false (by omega))) rfl ?_)
    | refine x_op rfl (x_val (r_gtr (r := true) rfl rfl (decide_eq_true (by omega))) rfl ?_)
    | refine x_op rfl (x_val (r_gtr (r := false) rfl rfl (decide_eq_false (by omega))) rfl ?_)
    | refine x_op rfl (x_val (r_geq (r := true) rfl rfl (decide_eq_true (by omega))) rfl ?_)
    | refine x_op rfl (x_val (r_geq (r := false) rfl rfl (decide_eq_false (by omega))) rfl ?_)
    | refine x_op rfl (x_val (r_eql (r := true) rfl rfl (decide_eq_true (by omega))) rfl ?_)
    | refine x_op rfl (x_val (r_eql (r := false) rfl rfl (decide_eq_false (by omega))) rfl ?_)
    | refine x_op rfl (x_val (r_neq (r := true) rfl rfl (decide_eq_true (by omega))) rfl ?_)
    | refine x_op rfl (x_val (r_neq (r := false) rfl rfl (decide_eq_false (by omega))) rfl ?_)
    | refine x_op rfl (x_val (by first | exact r_ownN (i := 0) (by assumption) rfl rfl rfl | exact r_ownN (i := 1) (by assumption) rfl rfl rfl | exact r_ownN (i := 2) (by assumption) rfl rfl rfl | exact r_ownN (i := 3) (by assumption) rfl rfl rfl | exact r_ownN (i := 4) (by assumption) rfl rfl rfl | exact r_ownN (i := 5) (by assumption) rfl rfl rfl) rfl ?_)
    | refine x_op rfl (s_store (i := 0) (by assumption) rfl rfl rfl rfl rfl rfl ?_)
    | refine x_op rfl (s_store (i := 1) (by assumption) rfl rfl rfl rfl rfl rfl ?_)
    | refine x_op rfl (s_store (i := 2) (by assumption) rfl rfl rfl rfl rfl rfl ?_)
    | refine x_op rfl (s_store (i := 3) (by assumption) rfl rfl rfl rfl rfl rfl ?_)
    | refine x_op rfl (s_store (i := 4) (by assumption) rfl rfl rfl rfl rfl rfl ?_)
    | refine x_op rfl (s_store (i := 5) (by assumption) rfl rfl rfl rfl rfl rfl ?_)
    | refine x_op rfl (s_box rfl rfl fun b hb => ?_) | refine x_op rfl (s_alloc (by assumption) rfl fun b hb => ?_))
  obtain ⟨b4, hbb⟩ : ∃ x, x = b := ⟨b, rfl⟩; subst hbb
  refine x_heap (L' := [bl b4 49 #[.pointer none, .slice none (([] : List UInt8)).length 0], sl none 0 5 1 (u8s (([] : List UInt8))), bl b1 26 #[.bool N.br, .int .i64 N.first, .slice A N.cs.length c]]) (fun w hO => (hO.nilsl 5 1).pick_ [1, 0, 2] (by decide)) ?_
  refine x_seq ?_
  repeat (first
    | refine x_region ?_ | refine x_nil ?_ | refine x_tend ?_
    | refine x_off rfl rfl ?_ | refine x_off0 rfl ?_
    | refine x_op rfl (x_val (r_move rfl) rfl ?_)
    | refine x_op rfl (x_val (r_assign rfl) rfl ?_)
    | refine x_op rfl (x_val (r_extract rfl rfl) rfl ?_)
    | refine x_op rfl (x_val (r_pick_t rfl rfl) rfl ?_)
    | refine x_op rfl (x_val (r_pick_f rfl rfl) rfl ?_)
    | refine x_op rfl (x_val (r_fieldAddr (by assumption) rfl) rfl ?_)
    | refine x_op rfl (x_val (by first | exact r_own_add (i := 0) (by assumption) rfl rfl rfl | exact r_own_add (i := 1) (by assumption) rfl rfl rfl | exact r_own_add (i := 2) (by assumption) rfl rfl rfl | exact r_own_add (i := 3) (by assumption) rfl rfl rfl | exact r_own_add (i := 4) (by assumption) rfl rfl rfl | exact r_own_add (i := 5) (by assumption) rfl rfl rfl | exact r_own (i := 0) (by assumption) rfl rfl rfl | exact r_own (i := 1) (by assumption) rfl rfl rfl | exact r_own (i := 2) (by assumption) rfl rfl rfl | exact r_own (i := 3) (by assumption) rfl rfl rfl | exact r_own (i := 4) (by assumption) rfl rfl rfl | exact r_own (i := 5) (by assumption) rfl rfl rfl) rfl ?_)
    | refine x_op rfl (x_val (r_len_string (by assumption) rfl) rfl ?_)
    | refine x_op rfl (x_val (r_len_slice (by assumption) rfl) rfl ?_)
    | refine x_op rfl (x_val (r_cap_slice (by assumption) rfl) rfl ?_)
    | refine x_op rfl (x_val (r_not rfl rfl) rfl ?_)
    | refine x_op rfl (x_val (r_add rfl rfl ⟨by omega, by omega⟩) rfl ?_)
    | refine x_op rfl (x_val (r_sub rfl rfl ⟨by omega, by omega⟩) rfl ?_)
    | refine x_op rfl (x_val (r_build (by assumption) (by assumption) rfl rfl) rfl ?_)
    | refine x_op rfl (x_val (r_nilCheck rfl) rfl ?_)
    | refine x_op rfl (x_val (r_lss (r := true) rfl rfl (decide_eq_true (by omega))) rfl ?_)
    | refine x_op rfl (x_val (r_lss (r := false) rfl rfl (decide_eq_false (by omega))) rfl ?_)
    | refine x_op rfl (x_val (r_leq (r := true) rfl rfl (decide_eq_true (by omega))) rfl ?_)
    | refine x_op rfl (x_val (r_leq (r := false) rfl rfl (decide_eq_false (by omega))) rfl ?_)
    | refine x_op rfl (x_val (r_gtr (r := true) rfl rfl (decide_eq_true (by omega))) rfl ?_)
    | refine x_op rfl (x_val (r_gtr (r := false) rfl rfl (decide_eq_false (by omega))) rfl ?_)
    | refine x_op rfl (x_val (r_geq (r := true) rfl rfl (decide_eq_true (by omega))) rfl ?_)
    | refine x_op rfl (x_val (r_geq (r := false) rfl rfl (decide_eq_false (by omega))) rfl ?_)
    | refine x_op rfl (x_val (r_eql (r := true) rfl rfl (decide_eq_true (by omega))) rfl ?_)
    | refine x_op rfl (x_val (r_eql (r := false) rfl rfl (decide_eq_false (by omega))) rfl ?_)
    | refine x_op rfl (x_val (r_neq (r := true) rfl rfl (decide_eq_true (by omega))) rfl ?_)
    | refine x_op rfl (x_val (r_neq (r := false) rfl rfl (decide_eq_false (by omega))) rfl ?_)
    | refine x_op rfl (x_val (by first | exact r_ownN (i := 0) (by assumption) rfl rfl rfl | exact r_ownN (i := 1) (by assumption) rfl rfl rfl | exact r_ownN (i := 2) (by assumption) rfl rfl rfl | exact r_ownN (i := 3) (by assumption) rfl rfl rfl | exact r_ownN (i := 4) (by assumption) rfl rfl rfl | exact r_ownN (i := 5) (by assumption) rfl rfl rfl) rfl ?_)
    | refine x_op rfl (s_store (i := 0) (by assumption) rfl rfl rfl rfl rfl rfl ?_)
    | refine x_op rfl (s_store (i := 1) (by assumption) rfl rfl rfl rfl rfl rfl ?_)
    | refine x_op rfl (s_store (i := 2) (by assumption) rfl rfl rfl rfl rfl rfl ?_)
    | refine x_op rfl (s_store (i := 3) (by assumption) rfl rfl rfl rfl rfl rfl ?_)
    | refine x_op rfl (s_store (i := 4) (by assumption) rfl rfl rfl rfl rfl rfl ?_)
    | refine x_op rfl (s_store (i := 5) (by assumption) rfl rfl rfl rfl rfl rfl ?_)
    | refine x_op rfl (s_box rfl rfl fun b hb => ?_) | refine x_op rfl (s_alloc (by assumption) rfl fun b hb => ?_))
  refine x_cut (σ := Unit) (fun _ => [(1, .pointer (some ⟨b1, 0, none⟩)), (4, .pointer (some ⟨b4, 0, none⟩)), (5, .int .u8 ((tagB N.br).toNat : Int))]) (fun _ => [bl b4 49 #[.pointer none, .slice none (([] : List UInt8)).length 0], sl none 0 5 1 (u8s (([] : List UInt8))), bl b1 26 #[.bool N.br, .int .i64 N.first, .slice A N.cs.length c]]) (fun _ => True) ?_ (fun _ _ => ?_)
  · cases hbr : N.br
    · repeat (first
    | refine x_seq ?_ | refine x_region ?_ | refine x_nil ?_ | refine x_block ?_ | refine x_skip ?_ | refine x_exit rfl ?_ | refine x_true rfl ?_ | refine x_false rfl ?_ | refine x_ret ?_ | refine x_tend ?_
    | refine x_off rfl rfl ?_ | refine x_off0 rfl ?_
    | refine x_op rfl (x_val (r_move rfl) rfl ?_)
    | refine x_op rfl (x_val (r_assign rfl) rfl ?_)
    | refine x_op rfl (x_val (r_extract rfl rfl) rfl ?_)
    | refine x_op rfl (x_val (r_pick_t rfl rfl) rfl ?_)
    | refine x_op rfl (x_val (r_pick_f rfl rfl) rfl ?_)
    | refine x_op rfl (x_val (r_fieldAddr (by assumption) rfl) rfl ?_)
    | refine x_op rfl (x_val (by first | exact r_own_add (i := 0) (by assumption) rfl rfl rfl | exact r_own_add (i := 1) (by assumption) rfl rfl rfl | exact r_own_add (i := 2) (by assumption) rfl rfl rfl | exact r_own_add (i := 3) (by assumption) rfl rfl rfl | exact r_own_add (i := 4) (by assumption) rfl rfl rfl | exact r_own_add (i := 5) (by assumption) rfl rfl rfl | exact r_own (i := 0) (by assumption) rfl rfl rfl | exact r_own (i := 1) (by assumption) rfl rfl rfl | exact r_own (i := 2) (by assumption) rfl rfl rfl | exact r_own (i := 3) (by assumption) rfl rfl rfl | exact r_own (i := 4) (by assumption) rfl rfl rfl | exact r_own (i := 5) (by assumption) rfl rfl rfl) rfl ?_)
    | refine x_op rfl (x_val (r_len_string (by assumption) rfl) rfl ?_)
    | refine x_op rfl (x_val (r_len_slice (by assumption) rfl) rfl ?_)
    | refine x_op rfl (x_val (r_cap_slice (by assumption) rfl) rfl ?_)
    | refine x_op rfl (x_val (r_not rfl rfl) rfl ?_)
    | refine x_op rfl (x_val (r_add rfl rfl ⟨by omega, by omega⟩) rfl ?_)
    | refine x_op rfl (x_val (r_sub rfl rfl ⟨by omega, by omega⟩) rfl ?_)
    | refine x_op rfl (x_val (r_build (by assumption) (by assumption) rfl rfl) rfl ?_)
    | refine x_op rfl (x_val (r_nilCheck rfl) rfl ?_)
    | refine x_op rfl (x_val (r_lss (r := true) rfl rfl (decide_eq_true (by omega))) rfl ?_)
    | refine x_op rfl (x_val (r_lss (r := false) rfl rfl (decide_eq_false (by omega))) rfl ?_)
    | refine x_op rfl (x_val (r_leq (r := true) rfl rfl (decide_eq_true (by omega))) rfl ?_)
    | refine x_op rfl (x_val (r_leq (r := false) rfl rfl (decide_eq_false (by omega))) rfl ?_)
    | refine x_op rfl (x_val (r_gtr (r := true) rfl rfl (decide_eq_true (by omega))) rfl ?_)
    | refine x_op rfl (x_val (r_gtr (r := false) rfl rfl (decide_eq_false (by omega))) rfl ?_)
    | refine x_op rfl (x_val (r_geq (r := true) rfl rfl (decide_eq_true (by omega))) rfl ?_)
    | refine x_op rfl (x_val (r_geq (r := false) rfl rfl (decide_eq_false (by omega))) rfl ?_)
    | refine x_op rfl (x_val (r_eql (r := true) rfl rfl (decide_eq_true (by omega))) rfl ?_)
    | refine x_op rfl (x_val (r_eql (r := false) rfl rfl (decide_eq_false (by omega))) rfl ?_)
    | refine x_op rfl (x_val (r_neq (r := true) rfl rfl (decide_eq_true (by omega))) rfl ?_)
    | refine x_op rfl (x_val (r_neq (r := false) rfl rfl (decide_eq_false (by omega))) rfl ?_)
    | refine x_op rfl (x_val (by first | exact r_ownN (i := 0) (by assumption) rfl rfl rfl | exact r_ownN (i := 1) (by assumption) rfl rfl rfl | exact r_ownN (i := 2) (by assumption) rfl rfl rfl | exact r_ownN (i := 3) (by assumption) rfl rfl rfl | exact r_ownN (i := 4) (by assumption) rfl rfl rfl | exact r_ownN (i := 5) (by assumption) rfl rfl rfl) rfl ?_)
    | refine x_op rfl (s_store (i := 0) (by assumption) rfl rfl rfl rfl rfl rfl ?_)
    | refine x_op rfl (s_store (i := 1) (by assumption) rfl rfl rfl rfl rfl rfl ?_)
    | refine x_op rfl (s_store (i := 2) (by assumption) rfl rfl rfl rfl rfl rfl ?_)
    | refine x_op rfl (s_store (i := 3) (by assumption) rfl rfl rfl rfl rfl rfl ?_)
    | refine x_op rfl (s_store (i := 4) (by assumption) rfl rfl rfl rfl rfl rfl ?_)
    | refine x_op rfl (s_store (i := 5) (by assumption) rfl rfl rfl rfl rfl rfl ?_)
    | refine x_op rfl (s_box rfl rfl fun b hb => ?_) | refine x_op rfl (s_alloc (by assumption) rfl fun b hb => ?_))
      exact x_there () ⟨rfl, rfl, rfl, trivial⟩ (fun _ h => h) trivial
    · repeat (first
    | refine x_seq ?_ | refine x_region ?_ | refine x_nil ?_ | refine x_block ?_ | refine x_skip ?_ | refine x_exit rfl ?_ | refine x_true rfl ?_ | refine x_false rfl ?_ | refine x_ret ?_ | refine x_tend ?_
    | refine x_off rfl rfl ?_ | refine x_off0 rfl ?_
    | refine x_op rfl (x_val (r_move rfl) rfl ?_)
    | refine x_op rfl (x_val (r_assign rfl) rfl ?_)
    | refine x_op rfl (x_val (r_extract rfl rfl) rfl ?_)
    | refine x_op rfl (x_val (r_pick_t rfl rfl) rfl ?_)
    | refine x_op rfl (x_val (r_pick_f rfl rfl) rfl ?_)
    | refine x_op rfl (x_val (r_fieldAddr (by assumption) rfl) rfl ?_)
    | refine x_op rfl (x_val (by first | exact r_own_add (i := 0) (by assumption) rfl rfl rfl | exact r_own_add (i := 1) (by assumption) rfl rfl rfl | exact r_own_add (i := 2) (by assumption) rfl rfl rfl | exact r_own_add (i := 3) (by assumption) rfl rfl rfl | exact r_own_add (i := 4) (by assumption) rfl rfl rfl | exact r_own_add (i := 5) (by assumption) rfl rfl rfl | exact r_own (i := 0) (by assumption) rfl rfl rfl | exact r_own (i := 1) (by assumption) rfl rfl rfl | exact r_own (i := 2) (by assumption) rfl rfl rfl | exact r_own (i := 3) (by assumption) rfl rfl rfl | exact r_own (i := 4) (by assumption) rfl rfl rfl | exact r_own (i := 5) (by assumption) rfl rfl rfl) rfl ?_)
    | refine x_op rfl (x_val (r_len_string (by assumption) rfl) rfl ?_)
    | refine x_op rfl (x_val (r_len_slice (by assumption) rfl) rfl ?_)
    | refine x_op rfl (x_val (r_cap_slice (by assumption) rfl) rfl ?_)
    | refine x_op rfl (x_val (r_not rfl rfl) rfl ?_)
    | refine x_op rfl (x_val (r_add rfl rfl ⟨by omega, by omega⟩) rfl ?_)
    | refine x_op rfl (x_val (r_sub rfl rfl ⟨by omega, by omega⟩) rfl ?_)
    | refine x_op rfl (x_val (r_build (by assumption) (by assumption) rfl rfl) rfl ?_)
    | refine x_op rfl (x_val (r_nilCheck rfl) rfl ?_)
    | refine x_op rfl (x_val (r_lss (r := true) rfl rfl (decide_eq_true (by omega))) rfl ?_)
    | refine x_op rfl (x_val (r_lss (r := false) rfl rfl (decide_eq_false (by omega))) rfl ?_)
    | refine x_op rfl (x_val (r_leq (r := true) rfl rfl (decide_eq_true (by omega))) rfl ?_)
    | refine x_op rfl (x_val (r_leq (r := false) rfl rfl (decide_eq_false (by omega))) rfl ?_)
    | refine x_op rfl (x_val (r_gtr (r := true) rfl rfl (decide_eq_true (by omega))) rfl ?_)
    | refine x_op rfl (x_val (r_gtr (r := false) rfl rfl (decide_eq_false (by omega))) rfl ?_)
    | refine x_op rfl (x_val (r_geq (r := true) rfl rfl (decide_eq_true (by omega))) rfl ?_)
    | refine x_op rfl (x_val (r_geq (r := false) rfl rfl (decide_eq_false (by omega))) rfl ?_)
    | refine x_op rfl (x_val (r_eql (r := true) rfl rfl (decide_eq_true (by omega))) rfl ?_)
    | refine x_op rfl (x_val (r_eql (r := false) rfl rfl (decide_eq_false (by omega))) rfl ?_)
    | refine x_op rfl (x_val (r_neq (r := true) rfl rfl (decide_eq_true (by omega))) rfl ?_)
    | refine x_op rfl (x_val (r_neq (r := false) rfl rfl (decide_eq_false (by omega))) rfl ?_)
    | refine x_op rfl (x_val (by first | exact r_ownN (i := 0) (by assumption) rfl rfl rfl | exact r_ownN (i := 1) (by assumption) rfl rfl rfl | exact r_ownN (i := 2) (by assumption) rfl rfl rfl | exact r_ownN (i := 3) (by assumption) rfl rfl rfl | exact r_ownN (i := 4) (by assumption) rfl rfl rfl | exact r_ownN (i := 5) (by assumption) rfl rfl rfl) rfl ?_)
    | refine x_op rfl (s_store (i := 0) (by assumption) rfl rfl rfl rfl rfl rfl ?_)
    | refine x_op rfl (s_store (i := 1) (by assumption) rfl rfl rfl rfl rfl rfl ?_)
    | refine x_op rfl (s_store (i := 2) (by assumption) rfl rfl rfl rfl rfl rfl ?_)
    | refine x_op rfl (s_store (i := 3) (by assumption) rfl rfl rfl rfl rfl rfl ?_)
    | refine x_op rfl (s_store (i := 4) (by assumption) rfl rfl rfl rfl rfl rfl ?_)
    | refine x_op rfl (s_store (i := 5) (by assumption) rfl rfl rfl rfl rfl rfl ?_)
    | refine x_op rfl (s_box rfl rfl fun b hb => ?_) | refine x_op rfl (s_alloc (by assumption) rfl fun b hb => ?_))
      exact x_there () ⟨rfl, rfl, rfl, trivial⟩ (fun _ h => h) trivial
  simp only []
  repeat (first
    | refine x_seq ?_ | refine x_region ?_ | refine x_nil ?_ | refine x_block ?_ | refine x_skip ?_ | refine x_exit rfl ?_ | refine x_true rfl ?_ | refine x_false rfl ?_ | refine x_ret ?_ | refine x_tend ?_
    | refine x_off rfl rfl ?_ | refine x_off0 rfl ?_
    | refine x_op rfl (x_val (r_move rfl) rfl ?_)
    | refine x_op rfl (x_val (r_assign rfl) rfl ?_)
    | refine x_op rfl (x_val (r_extract rfl rfl) rfl ?_)
    | refine x_op rfl (x_val (r_pick_t rfl rfl) rfl ?_)
    | refine x_op rfl (x_val (r_pick_f rfl rfl) rfl ?_)
    | refine x_op rfl (x_val (r_fieldAddr (by assumption) rfl) rfl ?_)
    | refine x_op rfl (x_val (by first | exact r_own_add (i := 0) (by assumption) rfl rfl rfl | exact r_own_add (i := 1) (by assumption) rfl rfl rfl | exact r_own_add (i := 2) (by assumption) rfl rfl rfl | exact r_own_add (i := 3) (by assumption) rfl rfl rfl | exact r_own_add (i := 4) (by assumption) rfl rfl rfl | exact r_own_add (i := 5) (by assumption) rfl rfl rfl | exact r_own (i := 0) (by assumption) rfl rfl rfl | exact r_own (i := 1) (by assumption) rfl rfl rfl | exact r_own (i := 2) (by assumption) rfl rfl rfl | exact r_own (i := 3) (by assumption) rfl rfl rfl | exact r_own (i := 4) (by assumption) rfl rfl rfl | exact r_own (i := 5) (by assumption) rfl rfl rfl) rfl ?_)
    | refine x_op rfl (x_val (r_len_string (by assumption) rfl) rfl ?_)
    | refine x_op rfl (x_val (r_len_slice (by assumption) rfl) rfl ?_)
    | refine x_op rfl (x_val (r_cap_slice (by assumption) rfl) rfl ?_)
    | refine x_op rfl (x_val (r_not rfl rfl) rfl ?_)
    | refine x_op rfl (x_val (r_add rfl rfl ⟨by omega, by omega⟩) rfl ?_)
    | refine x_op rfl (x_val (r_sub rfl rfl ⟨by omega, by omega⟩) rfl ?_)
    | refine x_op rfl (x_val (r_build (by assumption) (by assumption) rfl rfl) rfl ?_)
    | refine x_op rfl (x_val (r_nilCheck rfl) rfl ?_)
    | refine x_op rfl (x_val (r_lss (r := true) rfl rfl (decide_eq_true (by omega))) rfl ?_)
    | refine x_op rfl (x_val (r_lss (r := false) rfl rfl (decide_eq_false (by omega))) rfl ?_)
    | refine x_op rfl (x_val (r_leq (r := true) rfl rfl (decide_eq_true (by omega))) rfl ?_)
    | refine x_op rfl (x_val (r_leq (r := false) rfl rfl (decide_eq_false (by omega))) rfl ?_)
    | refine x_op rfl (x_val (r_gtr (r := true) rfl rfl (decide_eq_true (by omega))) rfl ?_)
    | refine x_op rfl (x_val (r_gtr (r := false) rfl rfl (decide_eq_false (by omega))) rfl ?_)
    | refine x_op rfl (x_val (r_geq (r := true) rfl rfl (decide_eq_true (by omega))) rfl ?_)
    | refine x_op rfl (x_val (r_geq (r := false) rfl rfl (decide_eq_false (by omega))) rfl ?_)
    | refine x_op rfl (x_val (r_eql (r := true) rfl rfl (decide_eq_true (by omega))) rfl ?_)
    | refine x_op rfl (x_val (r_eql (r := false) rfl rfl (decide_eq_false (by omega))) rfl ?_)
    | refine x_op rfl (x_val (r_neq (r := true) rfl rfl (decide_eq_true (by omega))) rfl ?_)
    | refine x_op rfl (x_val (r_neq (r := false) rfl rfl (decide_eq_false (by omega))) rfl ?_)
    | refine x_op rfl (x_val (by first | exact r_ownN (i := 0) (by assumption) rfl rfl rfl | exact r_ownN (i := 1) (by assumption) rfl rfl rfl | exact r_ownN (i := 2) (by assumption) rfl rfl rfl | exact r_ownN (i := 3) (by assumption) rfl rfl rfl | exact r_ownN (i := 4) (by assumption) rfl rfl rfl | exact r_ownN (i := 5) (by assumption) rfl rfl rfl) rfl ?_)
    | refine x_op rfl (s_store (i := 0) (by assumption) rfl rfl rfl rfl rfl rfl ?_)
    | refine x_op rfl (s_store (i := 1) (by assumption) rfl rfl rfl rfl rfl rfl ?_)
    | refine x_op rfl (s_store (i := 2) (by assumption) rfl rfl rfl rfl rfl rfl ?_)
    | refine x_op rfl (s_store (i := 3) (by assumption) rfl rfl rfl rfl rfl rfl ?_)
    | refine x_op rfl (s_store (i := 4) (by assumption) rfl rfl rfl rfl rfl rfl ?_)
    | refine x_op rfl (s_store (i := 5) (by assumption) rfl rfl rfl rfl rfl rfl ?_)
    | refine x_op rfl (s_box rfl rfl fun b hb => ?_) | refine x_op rfl (s_alloc (by assumption) rfl fun b hb => ?_))
  refine x_op rfl (s_call Ty.c18 rfl rfl (fun w hw => WB_ b4 none none 0 (([] : List UInt8)) (tagB N.br) w (.inl rfl) (SlOk.nil_ 1) (hw.sub_ (L := (BL b4 none none 0 (([] : List UInt8)) ++ [bl b1 26 #[.bool N.br, .int .i64 N.first, .slice A N.cs.length c]])) [0, 1] (by decide)) (by simp)) (fun wq v wq1 hw h => ?_))
  obtain ⟨rfl, A1, cap1, hk1, hO⟩ := h
  refine ⟨_, hw.swap_ (L := (BL b4 none none 0 (([] : List UInt8)) ++ [bl b1 26 #[.bool N.br, .int .i64 N.first, .slice A N.cs.length c]])) [0, 1] [2] (by decide) hO, ?_⟩
  repeat (first
    | refine x_seq ?_ | refine x_region ?_ | refine x_nil ?_ | refine x_block ?_ | refine x_skip ?_ | refine x_exit rfl ?_ | refine x_true rfl ?_ | refine x_false rfl ?_ | refine x_ret ?_ | refine x_tend ?_
    | refine x_off rfl rfl ?_ | refine x_off0 rfl ?_
    | refine x_op rfl (x_val (r_move rfl) rfl ?_)
    | refine x_op rfl (x_val (r_assign rfl) rfl ?_)
    | refine x_op rfl (x_val (r_extract rfl rfl) rfl ?_)
    | refine x_op rfl (x_val (r_pick_t rfl rfl) rfl ?_)
    | refine x_op rfl (x_val (r_pick_f rfl rfl) rfl ?_)
    | refine x_op rfl (x_val (r_fieldAddr (by assumption) rfl) rfl ?_)
    | refine x_op rfl (x_val (by first | exact r_own_add (i := 0) (by assumption) rfl rfl rfl | exact r_own_add (i := 1) (by assumption) rfl rfl rfl | exact r_own_add (i := 2) (by assumption) rfl rfl rfl | exact r_own_add (i := 3) (by assumption) rfl rfl rfl | exact r_own_add (i := 4) (by assumption) rfl rfl rfl | exact r_own_add (i := 5) (by assumption) rfl rfl rfl | exact r_own (i := 0) (by assumption) rfl rfl rfl | exact r_own (i := 1) (by assumption) rfl rfl rfl | exact r_own (i := 2) (by assumption) rfl rfl rfl | exact r_own (i := 3) (by assumption) rfl rfl rfl | exact r_own (i := 4) (by assumption) rfl rfl rfl | exact r_own (i := 5) (by assumption) rfl rfl rfl) rfl ?_)
    | refine x_op rfl (x_val (r_len_string (by assumption) rfl) rfl ?_)
    | refine x_op rfl (x_val (r_len_slice (by assumption) rfl) rfl ?_)
    | refine x_op rfl (x_val (r_cap_slice (by assumption) rfl) rfl ?_)
    | refine x_op rfl (x_val (r_not rfl rfl) rfl ?_)
    | refine x_op rfl (x_val (r_add rfl rfl ⟨by omega, by omega⟩) rfl ?_)
    | refine x_op rfl (x_val (r_sub rfl rfl ⟨by omega, by omega⟩) rfl ?_)
    | refine x_op rfl (x_val (r_build (by assumption) (by assumption) rfl rfl) rfl ?_)
    | refine x_op rfl (x_val (r_nilCheck rfl) rfl ?_)
    | refine x_op rfl (x_val (r_lss (r := true) rfl rfl (decide_eq_true (by omega))) rfl ?_)
    | refine x_op rfl (x_val (r_lss (r := false) rfl rfl (decide_eq_false (by omega))) rfl ?_)
    | refine x_op rfl (x_val (r_leq (r := true) rfl rfl (decide_eq_true (by omega))) rfl ?_)
    | refine x_op rfl (x_val (r_leq (r := false) rfl rfl (decide_eq_false (by omega))) rfl ?_)
    | refine x_op rfl (x_val (r_gtr (r := true) rfl rfl (decide_eq_true (by omega))) rfl ?_)
    | refine x_op rfl (x_val (r_gtr (r := false) rfl rfl (decide_eq_false (by omega))) rfl ?_)
    | refine x_op rfl (x_val (r_geq (r := true) rfl rfl (decide_eq_true (by omega))) rfl ?_)
    | refine x_op rfl (x_val (r_geq (r := false) rfl rfl (decide_eq_false (by omega))) rfl ?_)
    | refine x_op rfl (x_val (r_eql (r := true) rfl rfl (decide_eq_true (by omega))) rfl ?_)
    | refine x_op rfl (x_val (r_eql (r := false) rfl rfl (decide_eq_false (by omega))) rfl ?_)
    | refine x_op rfl (x_val (r_neq (r := true) rfl rfl (decide_eq_true (by omega))) rfl ?_)
    | refine x_op rfl (x_val (r_neq (r := false) rfl rfl (decide_eq_false (by omega))) rfl ?_)
    | refine x_op rfl (x_val (by first | exact r_ownN (i := 0) (by assumption) rfl rfl rfl | exact r_ownN (i := 1) (by assumption) rfl rfl rfl | exact r_ownN (i := 2) (by assumption) rfl rfl rfl | exact r_ownN (i := 3) (by assumption) rfl rfl rfl | exact r_ownN (i := 4) (by assumption) rfl rfl rfl | exact r_ownN (i := 5) (by assumption) rfl rfl rfl) rfl ?_)
    | refine x_op rfl (s_store (i := 0) (by assumption) rfl rfl rfl rfl rfl rfl ?_)
    | refine x_op rfl (s_store (i := 1) (by assumption) rfl rfl rfl rfl rfl rfl ?_)
    | refine x_op rfl (s_store (i := 2) (by assumption) rfl rfl rfl rfl rfl rfl ?_)
    | refine x_op rfl (s_store (i := 3) (by assumption) rfl rfl rfl rfl rfl rfl ?_)
    | refine x_op rfl (s_store (i := 4) (by assumption) rfl rfl rfl rfl rfl rfl ?_)
    | refine x_op rfl (s_store (i := 5) (by assumption) rfl rfl rfl rfl rfl rfl ?_)
    | refine x_op rfl (s_box rfl rfl fun b hb => ?_) | refine x_op rfl (s_alloc (by assumption) rfl fun b hb => ?_))
  refine x_op rfl (x_val (r_conv_int u3 u5 rfl ((IntKind.wrap_u8 _).trans (by simp : _ = ((UInt8.ofNat N.cs.length).toNat : Int)))) rfl ?_)
  refine x_op rfl (s_call Ty.c18 rfl rfl (fun w hw => WB_ b4 (me b4) A1 cap1 ([] ++ [tagB N.br]) (UInt8.ofNat N.cs.length) w (.inr rfl) hk1 (hw.sub_ (L := (BL b4 (me b4) A1 cap1 ([] ++ [tagB N.br]) ++ [bl b1 26 #[.bool N.br, .int .i64 N.first, .slice A N.cs.length c]])) [0, 1] (by decide)) (by simp)) (fun wq v wq1 hw h => ?_))
  obtain ⟨rfl, A2, cap2, hk2, hO⟩ := h
  refine ⟨_, hw.swap_ (L := (BL b4 (me b4) A1 cap1 ([] ++ [tagB N.br]) ++ [bl b1 26 #[.bool N.br, .int .i64 N.first, .slice A N.cs.length c]])) [0, 1] [2] (by decide) hO, ?_⟩
  refine x_nil ?_
  refine x_cut (σ := Option Addr × Nat) (fun s => [(1, .pointer (some ⟨b1, 0, none⟩)), (4, .pointer (some ⟨b4, 0, none⟩))]) (fun s => (BL b4 (me b4) s.1 s.2 (encHdr N) ++ [bl b1 26 #[.bool N.br, .int .i64 N.first, .slice A N.cs.length c]])) (fun s => SlOk s.1 (encHdr N).length s.2 1 (u8s (encHdr N))) ?_ ?_
  · refine x_seq ?_
    refine x_region ?_
    refine x_op rfl (x_val (r_fieldAddr q26_0 rfl) rfl ?_)
    refine x_op rfl (x_val (r_own_add (i := 2) z4 rfl rfl rfl) rfl (x_bool (fun hbr => ?_) (fun hbr => ?_)))
    rotate_left
    · have hh : encHdr N = [] ++ [tagB N.br] ++ [UInt8.ofNat N.cs.length] := by simp [encHdr, show N.br = false from hbr]
      rw [hh]
      repeat (first
    | refine x_seq ?_ | refine x_region ?_ | refine x_nil ?_ | refine x_block ?_ | refine x_skip ?_ | refine x_exit rfl ?_ | refine x_true rfl ?_ | refine x_false rfl ?_ | refine x_ret ?_ | refine x_tend ?_
    | refine x_off rfl rfl ?_ | refine x_off0 rfl ?_
    | refine x_op rfl (x_val (r_move rfl) rfl ?_)
    | refine x_op rfl (x_val (r_assign rfl) rfl ?_)
    | refine x_op rfl (x_val (r_extract rfl rfl) rfl ?_)
    | refine x_op rfl (x_val (r_pick_t rfl rfl) rfl ?_)
    | refine x_op rfl (x_val (r_pick_f rfl rfl) rfl ?_)
    | refine x_op rfl (x_val (r_fieldAddr (by assumption) rfl) rfl ?_)
    | refine x_op rfl (x_val (by first | exact r_own_add (i := 0) (by assumption) rfl rfl rfl | exact r_own_add (i := 1) (by assumption) rfl rfl rfl | exact r_own_add (i := 2) (by assumption) rfl rfl rfl | exact r_own_add (i := 3) (by assumption) rfl rfl rfl | exact r_own_add (i := 4) (by assumption) rfl rfl rfl | exact r_own_add (i := 5) (by assumption) rfl rfl rfl | exact r_own (i := 0) (by assumption) rfl rfl rfl | exact r_own (i := 1) (by assumption) rfl rfl rfl | exact r_own (i := 2) (by assumption) rfl rfl rfl | exact r_own (i := 3) (by assumption) rfl rfl rfl | exact r_own (i := 4) (by assumption) rfl rfl rfl | exact r_own (i := 5) (by assumption) rfl rfl rfl) rfl ?_)
    | refine x_op rfl (x_val (r_len_string (by assumption) rfl) rfl ?_)
    | refine x_op rfl (x_val (r_len_slice (by assumption) rfl) rfl ?_)
    | refine x_op rfl (x_val (r_cap_slice (by assumption) rfl) rfl ?_)
    | refine x_op rfl (x_val (r_not rfl rfl) rfl ?_)
    | refine x_op rfl (x_val (r_add rfl rfl ⟨by omega, by omega⟩) rfl ?_)
    | refine x_op rfl (x_val (r_sub rfl rfl ⟨by omega, by omega⟩) rfl ?_)
    | refine x_op rfl (x_val (r_build (by assumption) (by assumption) rfl rfl) rfl ?_)
    | refine x_op rfl (x_val (r_nilCheck rfl) rfl ?_)
    | refine x_op rfl (x_val (r_lss (r := true) rfl rfl (decide_eq_true (by omega))) rfl ?_)
    | refine x_op rfl (x_val (r_lss (r := false) rfl rfl (decide_eq_false (by omega))) rfl ?_)
    | refine x_op rfl (x_val (r_leq (r := true) rfl rfl (decide_eq_true (by omega))) rfl ?_)
    | refine x_op rfl (x_val (r_leq (r := false) rfl rfl (decide_eq_false (by omega))) rfl ?_)
    | refine x_op rfl (x_val (r_gtr (r := true) rfl rfl (decide_eq_true (by omega))) rfl ?_)
    | refine x_op rfl (x_val (r_gtr (r := false) rfl rfl (decide_eq_false (by omega))) rfl ?_)
    | refine x_op rfl (x_val (r_geq (r := true) rfl rfl (decide_eq_true (by omega))) rfl ?_)
    | refine x_op rfl (x_val (r_geq (r := false) rfl rfl (decide_eq_false (by omega))) rfl ?_)
    | refine x_op rfl (x_val (r_eql (r := true) rfl rfl (decide_eq_true (by omega))) rfl ?_)
    | refine x_op rfl (x_val (r_eql (r := false) rfl rfl (decide_eq_false (by omega))) rfl ?_)
    | refine x_op rfl (x_val (r_neq (r := true) rfl rfl (decide_eq_true (by omega))) rfl ?_)
    | refine x_op rfl (x_val (r_neq (r := false) rfl rfl (decide_eq_false (by omega))) rfl ?_)
    | refine x_op rfl (x_val (by first | exact r_ownN (i := 0) (by assumption) rfl rfl rfl | exact r_ownN (i := 1) (by assumption) rfl rfl rfl | exact r_ownN (i := 2) (by assumption) rfl rfl rfl | exact r_ownN (i := 3) (by assumption) rfl rfl rfl | exact r_ownN (i := 4) (by assumption) rfl rfl rfl | exact r_ownN (i := 5) (by assumption) rfl rfl rfl) rfl ?_)
    | refine x_op rfl (s_store (i := 0) (by assumption) rfl rfl rfl rfl rfl rfl ?_)
    | refine x_op rfl (s_store (i := 1) (by assumption) rfl rfl rfl rfl rfl rfl ?_)
    | refine x_op rfl (s_store (i := 2) (by assumption) rfl rfl rfl rfl rfl rfl ?_)
    | refine x_op rfl (s_store (i := 3) (by assumption) rfl rfl rfl rfl rfl rfl ?_)
    | refine x_op rfl (s_store (i := 4) (by assumption) rfl rfl rfl rfl rfl rfl ?_)
    | refine x_op rfl (s_store (i := 5) (by assumption) rfl rfl rfl rfl rfl rfl ?_)
    | refine x_op rfl (s_box rfl rfl fun b hb => ?_) | refine x_op rfl (s_alloc (by assumption) rfl fun b hb => ?_))
      exact x_there (A2, cap2) ⟨rfl, rfl, trivial⟩ (fun _ h => h) hk2
    · have hh : encHdr N = [] ++ [tagB N.br] ++ [UInt8.ofNat N.cs.length] ++ (four4 N.first).data.toList := by simp [encHdr, show N.br = true from hbr]
      rw [hh]
      repeat (first
    | refine x_seq ?_ | refine x_region ?_ | refine x_nil ?_ | refine x_block ?_ | refine x_skip ?_ | refine x_exit rfl ?_ | refine x_true rfl ?_ | refine x_false rfl ?_ | refine x_ret ?_ | refine x_tend ?_
    | refine x_off rfl rfl ?_ | refine x_off0 rfl ?_
    | refine x_op rfl (x_val (r_move rfl) rfl ?_)
    | refine x_op rfl (x_val (r_assign rfl) rfl ?_)
    | refine x_op rfl (x_val (r_extract rfl rfl) rfl ?_)
    | refine x_op rfl (x_val (r_pick_t rfl rfl) rfl ?_)
    | refine x_op rfl (x_val (r_pick_f rfl rfl) rfl ?_)
    | refine x_op rfl (x_val (r_fieldAddr (by assumption) rfl) rfl ?_)
    | refine x_op rfl (x_val (by first | exact r_own_add (i := 0) (by assumption) rfl rfl rfl | exact r_own_add (i := 1) (by assumption) rfl rfl rfl | exact r_own_add (i := 2) (by assumption) rfl rfl rfl | exact r_own_add (i := 3) (by assumption) rfl rfl rfl | exact r_own_add (i := 4) (by assumption) rfl rfl rfl | exact r_own_add (i := 5) (by assumption) rfl rfl rfl | exact r_own (i := 0) (by assumption) rfl rfl rfl | exact r_own (i := 1) (by assumption) rfl rfl rfl | exact r_own (i := 2) (by assumption) rfl rfl rfl | exact r_own (i := 3) (by assumption) rfl rfl rfl | exact r_own (i := 4) (by assumption) rfl rfl rfl | exact r_own (i := 5) (by assumption) rfl rfl rfl) rfl ?_)
    | refine x_op rfl (x_val (r_len_string (by assumption) rfl) rfl ?_)
    | refine x_op rfl (x_val (r_len_slice (by assumption) rfl) rfl ?_)
    | refine x_op rfl (x_val (r_cap_slice (by assumption) rfl) rfl ?_)
    | refine x_op rfl (x_val (r_not rfl rfl) rfl ?_)
    | refine x_op rfl (x_val (r_add rfl rfl ⟨by omega, by omega⟩) rfl ?_)
    | refine x_op rfl (x_val (r_sub rfl rfl ⟨by omega, by omega⟩) rfl ?_)
    | refine x_op rfl (x_val (r_build (by assumption) (by assumption) rfl rfl) rfl ?_)
    | refine x_op rfl (x_val (r_nilCheck rfl) rfl ?_)
    | refine x_op rfl (x_val (r_lss (r := true) rfl rfl (decide_eq_true (by omega))) rfl ?_)
    | refine x_op rfl (x_val (r_lss (r := false) rfl rfl (decide_eq_false (by omega))) rfl ?_)
    | refine x_op rfl (x_val (r_leq (r := true) rfl rfl (decide_eq_true (by omega))) rfl ?_)
    | refine x_op rfl (x_val (r_leq (r := false) rfl rfl (decide_eq_false (by omega))) rfl ?_)
    | refine x_op rfl (x_val (r_gtr (r := true) rfl rfl (decide_eq_true (by omega))) rfl ?_)
    | refine x_op rfl (x_val (r_gtr (r := false) rfl rfl (decide_eq_false (by omega))) rfl ?_)
    | refine x_op rfl (x_val (r_geq (r := true) rfl rfl (decide_eq_true (by omega))) rfl ?_)
    | refine x_op rfl (x_val (r_geq (r := false) rfl rfl (decide_eq_false (by omega))) rfl ?_)
    | refine x_op rfl (x_val (r_eql (r := true) rfl rfl (decide_eq_true (by omega))) rfl ?_)
    | refine x_op rfl (x_val (r_eql (r := false) rfl rfl (decide_eq_false (by omega))) rfl ?_)
    | refine x_op rfl (x_val (r_neq (r := true) rfl rfl (decide_eq_true (by omega))) rfl ?_)
    | refine x_op rfl (x_val (r_neq (r := false) rfl rfl (decide_eq_false (by omega))) rfl ?_)
    | refine x_op rfl (x_val (by first | exact r_ownN (i := 0) (by assumption) rfl rfl rfl | exact r_ownN (i := 1) (by assumption) rfl rfl rfl | exact r_ownN (i := 2) (by assumption) rfl rfl rfl | exact r_ownN (i := 3) (by assumption) rfl rfl rfl | exact r_ownN (i := 4) (by assumption) rfl rfl rfl | exact r_ownN (i := 5) (by assumption) rfl rfl rfl) rfl ?_)
    | refine x_op rfl (s_store (i := 0) (by assumption) rfl rfl rfl rfl rfl rfl ?_)
    | refine x_op rfl (s_store (i := 1) (by assumption) rfl rfl rfl rfl rfl rfl ?_)
    | refine x_op rfl (s_store (i := 2) (by assumption) rfl rfl rfl rfl rfl rfl ?_)
    | refine x_op rfl (s_store (i := 3) (by assumption) rfl rfl rfl rfl rfl rfl ?_)
    | refine x_op rfl (s_store (i := 4) (by assumption) rfl rfl rfl rfl rfl rfl ?_)
    | refine x_op rfl (s_store (i := 5) (by assumption) rfl rfl rfl rfl rfl rfl ?_)
    | refine x_op rfl (s_box rfl rfl fun b hb => ?_) | refine x_op rfl (s_alloc (by assumption) rfl fun b hb => ?_))
      refine x_op rfl (s_call Ty.c20 rfl rfl (fun w hw => four_ N.first w) (fun wq v wq1 hw h => ?_)); obtain ⟨rfl, hO⟩ := h; refine ⟨_, hw.call0 hO, ?_⟩
      refine x_op rfl (s_call Ty.c19 rfl rfl (fun w hw => WS_ b4 (me b4) A2 cap2 ([] ++ [tagB N.br] ++ [UInt8.ofNat N.cs.length]) (four4 N.first) w (.inr rfl) hk2 (hw.sub_ (L := (BL b4 (me b4) A2 cap2 ([] ++ [tagB N.br] ++ [UInt8.ofNat N.cs.length]) ++ [bl b1 26 #[.bool N.br, .int .i64 N.first, .slice A N.cs.length c]])) [0, 1] (by decide)) (by have h4 : (four4 N.first).size = 4 := strOfNums_size _; rw [h4]; simp)) (fun wq v wq1 hw h => ?_))
      obtain ⟨rfl, A3, cap3, hk3, hO⟩ := h
      refine ⟨_, hw.swap_ (L := (BL b4 (me b4) A2 cap2 ([] ++ [tagB N.br] ++ [UInt8.ofNat N.cs.length]) ++ [bl b1 26 #[.bool N.br, .int .i64 N.first, .slice A N.cs.length c]])) [0, 1] [2] (by decide) hO, ?_⟩
      repeat (first
    | refine x_seq ?_ | refine x_region ?_ | refine x_nil ?_ | refine x_block ?_ | refine x_skip ?_ | refine x_exit rfl ?_ | refine x_true rfl ?_ | refine x_false rfl ?_ | refine x_ret ?_ | refine x_tend ?_
    | refine x_off rfl rfl ?_ | refine x_off0 rfl ?_
    | refine x_op rfl (x_val (r_move rfl) rfl ?_)
    | refine x_op rfl (x_val (r_assign rfl) rfl ?_)
    | refine x_op rfl (x_val (r_extract rfl rfl) rfl ?_)
    | refine x_op rfl (x_val (r_pick_t rfl rfl) rfl ?_)
    | refine x_op rfl (x_val (r_pick_f rfl rfl) rfl ?_)
    | refine x_op rfl (x_val (r_fieldAddr (by assumption) rfl) rfl ?_)
    | refine x_op rfl (x_val (by first | exact r_own_add (i := 0) (by assumption) rfl rfl rfl | exact r_own_add (i := 1) (by assumption) rfl rfl rfl | exact r_own_add (i := 2) (by assumption) rfl rfl rfl | exact r_own_add (i := 3) (by assumption) rfl rfl rfl | exact r_own_add (i := 4) (by assumption) rfl rfl rfl | exact r_own_add (i := 5) (by assumption) rfl rfl rfl | exact r_own (i := 0) (by assumption) rfl rfl rfl | exact r_own (i := 1) (by assumption) rfl rfl rfl | exact r_own (i := 2) (by assumption) rfl rfl rfl | exact r_own (i := 3) (by assumption) rfl rfl rfl | exact r_own (i := 4) (by assumption) rfl rfl rfl | exact r_own (i := 5) (by assumption) rfl rfl rfl) rfl ?_)
    | refine x_op rfl (x_val (r_len_string (by assumption) rfl) rfl ?_)
    | refine x_op rfl (x_val (r_len_slice (by assumption) rfl) rfl ?_)
    | refine x_op rfl (x_val (r_cap_slice (by assumption) rfl) rfl ?_)
    | refine x_op rfl (x_val (r_not rfl rfl) rfl ?_)
    | refine x_op rfl (x_val (r_add rfl rfl ⟨by omega, by omega⟩) rfl ?_)
    | refine x_op rfl (x_val (r_sub rfl rfl ⟨by omega, by omega⟩) rfl ?_)
    | refine x_op rfl (x_val (r_build (by assumption) (by assumption) rfl rfl) rfl ?_)
    | refine x_op rfl (x_val (r_nilCheck rfl) rfl ?_)
    | refine x_op rfl (x_val (r_lss (r := true) rfl rfl (decide_eq_true (by omega))) rfl ?_)
    | refine x_op rfl (x_val (r_lss (r := false) rfl rfl (decide_eq_false (by omega))) rfl ?_)
    | refine x_op rfl (x_val (r_leq (r := true) rfl rfl (decide_eq_true (by omega))) rfl ?_)
    | refine x_op rfl (x_val (r_leq (r := false) rfl rfl (decide_eq_false (by omega))) rfl ?_)
    | refine x_op rfl (x_val (r_gtr (r := true) rfl rfl (decide_eq_true (by omega))) rfl ?_)
    | refine x_op rfl (x_val (r_gtr (r := false) rfl rfl (decide_eq_false (by omega))) rfl ?_)
    | refine x_op rfl (x_val (r_geq (r := true) rfl rfl (decide_eq_true (by omega))) rfl ?_)
    | refine x_op rfl (x_val (r_geq (r := false) rfl rfl (decide_eq_false (by omega))) rfl ?_)
    | refine x_op rfl (x_val (r_eql (r := true) rfl rfl (decide_eq_true (by omega))) rfl ?_)
    | refine x_op rfl (x_val (r_eql (r := false) rfl rfl (decide_eq_false (by omega))) rfl ?_)
    | refine x_op rfl (x_val (r_neq (r := true) rfl rfl (decide_eq_true (by omega))) rfl ?_)
    | refine x_op rfl (x_val (r_neq (r := false) rfl rfl (decide_eq_false (by omega))) rfl ?_)
    | refine x_op rfl (x_val (by first | exact r_ownN (i := 0) (by assumption) rfl rfl rfl | exact r_ownN (i := 1) (by assumption) rfl rfl rfl | exact r_ownN (i := 2) (by assumption) rfl rfl rfl | exact r_ownN (i := 3) (by assumption) rfl rfl rfl | exact r_ownN (i := 4) (by assumption) rfl rfl rfl | exact r_ownN (i := 5) (by assumption) rfl rfl rfl) rfl ?_)
    | refine x_op rfl (s_store (i := 0) (by assumption) rfl rfl rfl rfl rfl rfl ?_)
    | refine x_op rfl (s_store (i := 1) (by assumption) rfl rfl rfl rfl rfl rfl ?_)
    | refine x_op rfl (s_store (i := 2) (by assumption) rfl rfl rfl rfl rfl rfl ?_)
    | refine x_op rfl (s_store (i := 3) (by assumption) rfl rfl rfl rfl rfl rfl ?_)
    | refine x_op rfl (s_store (i := 4) (by assumption) rfl rfl rfl rfl rfl rfl ?_)
    | refine x_op rfl (s_store (i := 5) (by assumption) rfl rfl rfl rfl rfl rfl ?_)
    | refine x_op rfl (s_box rfl rfl fun b hb => ?_) | refine x_op rfl (s_alloc (by assumption) rfl fun b hb => ?_))
      exact x_there (A3, cap3) ⟨rfl, rfl, trivial⟩ (fun _ h => h) hk3
  rintro ⟨A3, cap3⟩ hk3
  simp only [] at hk3 ⊢
  have hhl : (encHdr N).length ≤ 6 := by have := encHdr_length N; cases hb : N.br <;> simp [hb] at this <;> omega
  refine x_cut (σ := Option Addr × Nat) (fun s => [(1, .pointer (some ⟨b1, 0, none⟩)), (4, .pointer (some ⟨b4, 0, none⟩))] ) (fun s => (BL b4 (me b4) s.1 s.2 (encHdr N ++ encCells N.cs) ++ [bl b1 26 #[.bool N.br, .int .i64 N.first, .slice A N.cs.length c]])) (fun s => SlOk s.1 (encHdr N ++ encCells N.cs).length s.2 1 (u8s (encHdr N ++ encCells N.cs))) ?_ ?_
  · refine x_seq ?_
    repeat (first
    | refine x_region ?_ | refine x_nil ?_ | refine x_tend ?_
    | refine x_off rfl rfl ?_ | refine x_off0 rfl ?_
    | refine x_op rfl (x_val (r_move rfl) rfl ?_)
    | refine x_op rfl (x_val (r_assign rfl) rfl ?_)
    | refine x_op rfl (x_val (r_extract rfl rfl) rfl ?_)
    | refine x_op rfl (x_val (r_pick_t rfl rfl) rfl ?_)
    | refine x_op rfl (x_val (r_pick_f rfl rfl) rfl ?_)
    | refine x_op rfl (x_val (r_fieldAddr (by assumption) rfl) rfl ?_)
    | refine x_op rfl (x_val (by first | exact r_own_add (i := 0) (by assumption) rfl rfl rfl | exact r_own_add (i := 1) (by assumption) rfl rfl rfl | exact r_own_add (i := 2) (by assumption) rfl rfl rfl | exact r_own_add (i := 3) (by assumption) rfl rfl rfl | exact r_own_add (i := 4) (by assumption) rfl rfl rfl | exact r_own_add (i := 5) (by assumption) rfl rfl rfl | exact r_own (i := 0) (by assumption) rfl rfl rfl | exact r_own (i := 1) (by assumption) rfl rfl rfl | exact r_own (i := 2) (by assumption) rfl rfl rfl | exact r_own (i := 3) (by assumption) rfl rfl rfl | exact r_own (i := 4) (by assumption) rfl rfl rfl | exact r_own (i := 5) (by assumption) rfl rfl rfl) rfl ?_)
    | refine x_op rfl (x_val (r_len_string (by assumption) rfl) rfl ?_)
    | refine x_op rfl (x_val (r_len_slice (by assumption) rfl) rfl ?_)
    | refine x_op rfl (x_val (r_cap_slice (by assumption) rfl) rfl ?_)
    | refine x_op rfl (x_val (r_not rfl rfl) rfl ?_)
    | refine x_op rfl (x_val (r_add rfl rfl ⟨by omega, by omega⟩) rfl ?_)
    | refine x_op rfl (x_val (r_sub rfl rfl ⟨by omega, by omega⟩) rfl ?_)
    | refine x_op rfl (x_val (r_build (by assumption) (by assumption) rfl rfl) rfl ?_)
    | refine x_op rfl (x_val (r_nilCheck rfl) rfl ?_)
    | refine x_op rfl (x_val (r_lss (r := true) rfl rfl (decide_eq_true (by omega))) rfl ?_)
    | refine x_op rfl (x_val (r_lss (r := false) rfl rfl (decide_eq_false (by omega))) rfl ?_)
    | refine x_op rfl (x_val (r_leq (r := true) rfl rfl (decide_eq_true (by omega))) rfl ?_)
    | refine x_op rfl (x_val (r_leq (r := false) rfl rfl (decide_eq_false (by omega))) rfl ?_)
    | refine x_op rfl (x_val (r_gtr (r := true) rfl rfl (decide_eq_true (by omega))) rfl ?_)
    | refine x_op rfl (x_val (r_gtr (r := false) rfl rfl (decide_eq_false (by omega))) rfl ?_)
    | refine x_op rfl (x_val (r_geq (r := true) rfl rfl (decide_eq_true (by omega))) rfl ?_)
    | refine x_op rfl (x_val (r_geq (r := false) rfl rfl (decide_eq_false (by omega))) rfl ?_)
    | refine x_op rfl (x_val (r_eql (r := true) rfl rfl (decide_eq_true (by omega))) rfl ?_)
    | refine x_op rfl (x_val (r_eql (r := false) rfl rfl (decide_eq_false (by omega))) rfl ?_)
    | refine x_op rfl (x_val (r_neq (r := true) rfl rfl (decide_eq_true (by omega))) rfl ?_)
    | refine x_op rfl (x_val (r_neq (r := false) rfl rfl (decide_eq_false (by omega))) rfl ?_)
    | refine x_op rfl (x_val (by first | exact r_ownN (i := 0) (by assumption) rfl rfl rfl | exact r_ownN (i := 1) (by assumption) rfl rfl rfl | exact r_ownN (i := 2) (by assumption) rfl rfl rfl | exact r_ownN (i := 3) (by assumption) rfl rfl rfl | exact r_ownN (i := 4) (by assumption) rfl rfl rfl | exact r_ownN (i := 5) (by assumption) rfl rfl rfl) rfl ?_)
    | refine x_op rfl (s_store (i := 0) (by assumption) rfl rfl rfl rfl rfl rfl ?_)
    | refine x_op rfl (s_store (i := 1) (by assumption) rfl rfl rfl rfl rfl rfl ?_)
    | refine x_op rfl (s_store (i := 2) (by assumption) rfl rfl rfl rfl rfl rfl ?_)
    | refine x_op rfl (s_store (i := 3) (by assumption) rfl rfl rfl rfl rfl rfl ?_)
    | refine x_op rfl (s_store (i := 4) (by assumption) rfl rfl rfl rfl rfl rfl ?_)
    | refine x_op rfl (s_store (i := 5) (by assumption) rfl rfl rfl rfl rfl rfl ?_)
    | refine x_op rfl (s_box rfl rfl fun b hb => ?_) | refine x_op rfl (s_alloc (by assumption) rfl fun b hb => ?_))
    refine x_block ?_
    have e0 : encHdr N ++ encCells (N.cs.take 0) = encHdr N := by simp [encCells]
    refine x_loop (σ := Nat × Option Addr × Nat) (fun s => [(1, .pointer (some ⟨b1, 0, none⟩)), (4, .pointer (some ⟨b4, 0, none⟩)), (32, .slice A N.cs.length c), (33, .int .i64 N.cs.length), (34, .int .i64 s.1)]) (fun s => (BL b4 (me b4) s.2.1 s.2.2 (encHdr N ++ encCells (N.cs.take s.1)) ++ [bl b1 26 #[.bool N.br, .int .i64 N.first, .slice A N.cs.length c]]))
      (fun s => s.1 ≤ N.cs.length ∧ SlOk s.2.1 (encHdr N ++ encCells (N.cs.take s.1)).length s.2.2 1 (u8s (encHdr N ++ encCells (N.cs.take s.1)))) (fun s => N.cs.length - s.1) (0, A3, cap3) ⟨rfl, rfl, rfl, rfl, rfl, trivial⟩ (fun _ h => by simp only [e0]; exact h) ⟨Nat.zero_le _, by simp only [e0]; exact hk3⟩ ?_
    rintro ⟨i, A4, cap4⟩ ⟨hi, hk4⟩
    simp only [] at hi hk4 ⊢
    repeat (first
    | refine x_seq ?_ | refine x_region ?_ | refine x_nil ?_ | refine x_block ?_ | refine x_skip ?_ | refine x_exit rfl ?_ | refine x_true rfl ?_ | refine x_false rfl ?_ | refine x_ret ?_ | refine x_tend ?_
    | refine x_off rfl rfl ?_ | refine x_off0 rfl ?_
    | refine x_op rfl (x_val (r_move rfl) rfl ?_)
    | refine x_op rfl (x_val (r_assign rfl) rfl ?_)
    | refine x_op rfl (x_val (r_extract rfl rfl) rfl ?_)
    | refine x_op rfl (x_val (r_pick_t rfl rfl) rfl ?_)
    | refine x_op rfl (x_val (r_pick_f rfl rfl) rfl ?_)
    | refine x_op rfl (x_val (r_fieldAddr (by assumption) rfl) rfl ?_)
    | refine x_op rfl (x_val (by first | exact r_own_add (i := 0) (by assumption) rfl rfl rfl | exact r_own_add (i := 1) (by assumption) rfl rfl rfl | exact r_own_add (i := 2) (by assumption) rfl rfl rfl | exact r_own_add (i := 3) (by assumption) rfl rfl rfl | exact r_own_add (i := 4) (by assumption) rfl rfl rfl | exact r_own_add (i := 5) (by assumption) rfl rfl rfl | exact r_own (i := 0) (by assumption) rfl rfl rfl | exact r_own (i := 1) (by assumption) rfl rfl rfl | exact r_own (i := 2) (by assumption) rfl rfl rfl | exact r_own (i := 3) (by assumption) rfl rfl rfl | exact r_own (i := 4) (by assumption) rfl rfl rfl | exact r_own (i := 5) (by assumption) rfl rfl rfl) rfl ?_)
    | refine x_op rfl (x_val (r_len_string (by assumption) rfl) rfl ?_)
    | refine x_op rfl (x_val (r_len_slice (by assumption) rfl) rfl ?_)
    | refine x_op rfl (x_val (r_cap_slice (by assumption) rfl) rfl ?_)
    | refine x_op rfl (x_val (r_not rfl rfl) rfl ?_)
    | refine x_op rfl (x_val (r_add rfl rfl ⟨by omega, by omega⟩) rfl ?_)
    | refine x_op rfl (x_val (r_sub rfl rfl ⟨by omega, by omega⟩) rfl ?_)
    | refine x_op rfl (x_val (r_build (by assumption) (by assumption) rfl rfl) rfl ?_)
    | refine x_op rfl (x_val (r_nilCheck rfl) rfl ?_)
    | refine x_op rfl (x_val (r_lss (r := true) rfl rfl (decide_eq_true (by omega))) rfl ?_)
    | refine x_op rfl (x_val (r_lss (r := false) rfl rfl (decide_eq_false (by omega))) rfl ?_)
    | refine x_op rfl (x_val (r_leq (r := true) rfl rfl (decide_eq_true (by omega))) rfl ?_)
    | refine x_op rfl (x_val (r_leq (r := false) rfl rfl (decide_eq_false (by omega))) rfl ?_)
    | refine x_op rfl (x_val (r_gtr (r := true) rfl rfl (decide_eq_true (by omega))) rfl ?_)
    | refine x_op rfl (x_val (r_gtr (r := false) rfl rfl (decide_eq_false (by omega))) rfl ?_)
    | refine x_op rfl (x_val (r_geq (r := true) rfl rfl (decide_eq_true (by omega))) rfl ?_)
    | refine x_op rfl (x_val (r_geq (r := false) rfl rfl (decide_eq_false (by omega))) rfl ?_)
    | refine x_op rfl (x_val (r_eql (r := true) rfl rfl (decide_eq_true (by omega))) rfl ?_)
    | refine x_op rfl (x_val (r_eql (r := false) rfl rfl (decide_eq_false (by omega))) rfl ?_)
    | refine x_op rfl (x_val (r_neq (r := true) rfl rfl (decide_eq_true (by omega))) rfl ?_)
    | refine x_op rfl (x_val (r_neq (r := false) rfl rfl (decide_eq_false (by omega))) rfl ?_)
    | refine x_op rfl (x_val (by first | exact r_ownN (i := 0) (by assumption) rfl rfl rfl | exact r_ownN (i := 1) (by assumption) rfl rfl rfl | exact r_ownN (i := 2) (by assumption) rfl rfl rfl | exact r_ownN (i := 3) (by assumption) rfl rfl rfl | exact r_ownN (i := 4) (by assumption) rfl rfl rfl | exact r_ownN (i := 5) (by assumption) rfl rfl rfl) rfl ?_)
    | refine x_op rfl (s_store (i := 0) (by assumption) rfl rfl rfl rfl rfl rfl ?_)
    | refine x_op rfl (s_store (i := 1) (by assumption) rfl rfl rfl rfl rfl rfl ?_)
    | refine x_op rfl (s_store (i := 2) (by assumption) rfl rfl rfl rfl rfl rfl ?_)
    | refine x_op rfl (s_store (i := 3) (by assumption) rfl rfl rfl rfl rfl rfl ?_)
    | refine x_op rfl (s_store (i := 4) (by assumption) rfl rfl rfl rfl rfl rfl ?_)
    | refine x_op rfl (s_store (i := 5) (by assumption) rfl rfl rfl rfl rfl rfl ?_)
    | refine x_op rfl (s_box rfl rfl fun b hb => ?_) | refine x_op rfl (s_alloc (by assumption) rfl fun b hb => ?_))
    refine x_op rfl (x_val (r_lss rfl rfl rfl) rfl (x_dec (fun hb => ?_) (fun hb => ?_)))
    · have hc : N.cs[i]? = some (N.cs[i]'(by omega)) := List.getElem?_eq_getElem _
      generalize N.cs[i]'(by omega) = p at hc
      have hsp' := (hsp.2.2 p (List.mem_of_getElem? hc))
      have het := encCells_take hc
      have hlx : (encCells (N.cs.take i)).length ≤ 8194 * 255 := by
        have h1 := encCells_length (N.cs.take i)
        have h2 := sz_le (N.cs.take i) (fun q hq => hsm q (List.mem_of_mem_take hq))
        have h3 : (N.cs.take i).length ≤ 255 := by rw [List.length_take]; omega
        omega
      have hd1 : p.1.data.toList.length = p.1.size := Array.length_toList
      have hd2 : p.2.data.toList.length = p.2.size := Array.length_toList
      obtain ⟨ad, rfl⟩ : ∃ ad, A = some ad := hr.some_ (by omega)
      repeat (first
    | refine x_seq ?_ | refine x_region ?_ | refine x_nil ?_ | refine x_block ?_ | refine x_skip ?_ | refine x_exit rfl ?_ | refine x_true rfl ?_ | refine x_false rfl ?_ | refine x_ret ?_ | refine x_tend ?_
    | refine x_off rfl rfl ?_ | refine x_off0 rfl ?_
    | refine x_op rfl (x_val (r_move rfl) rfl ?_)
    | refine x_op rfl (x_val (r_assign rfl) rfl ?_)
    | refine x_op rfl (x_val (r_extract rfl rfl) rfl ?_)
    | refine x_op rfl (x_val (r_pick_t rfl rfl) rfl ?_)
    | refine x_op rfl (x_val (r_pick_f rfl rfl) rfl ?_)
    | refine x_op rfl (x_val (r_fieldAddr (by assumption) rfl) rfl ?_)
    | refine x_op rfl (x_val (by first | exact r_own_add (i := 0) (by assumption) rfl rfl rfl | exact r_own_add (i := 1) (by assumption) rfl rfl rfl | exact r_own_add (i := 2) (by assumption) rfl rfl rfl | exact r_own_add (i := 3) (by assumption) rfl rfl rfl | exact r_own_add (i := 4) (by assumption) rfl rfl rfl | exact r_own_add (i := 5) (by assumption) rfl rfl rfl | exact r_own (i := 0) (by assumption) rfl rfl rfl | exact r_own (i := 1) (by assumption) rfl rfl rfl | exact r_own (i := 2) (by assumption) rfl rfl rfl | exact r_own (i := 3) (by assumption) rfl rfl rfl | exact r_own (i := 4) (by assumption) rfl rfl rfl | exact r_own (i := 5) (by assumption) rfl rfl rfl) rfl ?_)
    | refine x_op rfl (x_val (r_len_string (by assumption) rfl) rfl ?_)
    | refine x_op rfl (x_val (r_len_slice (by assumption) rfl) rfl ?_)
    | refine x_op rfl (x_val (r_cap_slice (by assumption) rfl) rfl ?_)
    | refine x_op rfl (x_val (r_not rfl rfl) rfl ?_)
    | refine x_op rfl (x_val (r_add rfl rfl ⟨by omega, by omega⟩) rfl ?_)
    | refine x_op rfl (x_val (r_sub rfl rfl ⟨by omega, by omega⟩) rfl ?_)
    | refine x_op rfl (x_val (r_build (by assumption) (by assumption) rfl rfl) rfl ?_)
    | refine x_op rfl (x_val (r_nilCheck rfl) rfl ?_)
    | refine x_op rfl (x_val (r_lss (r := true) rfl rfl (decide_eq_true (by omega))) rfl ?_)
    | refine x_op rfl (x_val (r_lss (r := false) rfl rfl (decide_eq_false (by omega))) rfl ?_)
    | refine x_op rfl (x_val (r_leq (r := true) rfl rfl (decide_eq_true (by omega))) rfl ?_)
    | refine x_op rfl (x_val (r_leq (r := false) rfl rfl (decide_eq_false (by omega))) rfl ?_)
    | refine x_op rfl (x_val (r_gtr (r := true) rfl rfl (decide_eq_true (by omega))) rfl ?_)
    | refine x_op rfl (x_val (r_gtr (r := false) rfl rfl (decide_eq_false (by omega))) rfl ?_)
    | refine x_op rfl (x_val (r_geq (r := true) rfl rfl (decide_eq_true (by omega))) rfl ?_)
    | refine x_op rfl (x_val (r_geq (r := false) rfl rfl (decide_eq_false (by omega))) rfl ?_)
    | refine x_op rfl (x_val (r_eql (r := true) rfl rfl (decide_eq_true (by omega))) rfl ?_)
    | refine x_op rfl (x_val (r_eql (r := false) rfl rfl (decide_eq_false (by omega))) rfl ?_)
    | refine x_op rfl (x_val (r_neq (r := true) rfl rfl (decide_eq_true (by omega))) rfl ?_)
    | refine x_op rfl (x_val (r_neq (r := false) rfl rfl (decide_eq_false (by omega))) rfl ?_)
    | refine x_op rfl (x_val (by first | exact r_ownN (i := 0) (by assumption) rfl rfl rfl | exact r_ownN (i := 1) (by assumption) rfl rfl rfl | exact r_ownN (i := 2) (by assumption) rfl rfl rfl | exact r_ownN (i := 3) (by assumption) rfl rfl rfl | exact r_ownN (i := 4) (by assumption) rfl rfl rfl | exact r_ownN (i := 5) (by assumption) rfl rfl rfl) rfl ?_)
    | refine x_op rfl (s_store (i := 0) (by assumption) rfl rfl rfl rfl rfl rfl ?_)
    | refine x_op rfl (s_store (i := 1) (by assumption) rfl rfl rfl rfl rfl rfl ?_)
    | refine x_op rfl (s_store (i := 2) (by assumption) rfl rfl rfl rfl rfl rfl ?_)
    | refine x_op rfl (s_store (i := 3) (by assumption) rfl rfl rfl rfl rfl rfl ?_)
    | refine x_op rfl (s_store (i := 4) (by assumption) rfl rfl rfl rfl rfl rfl ?_)
    | refine x_op rfl (s_store (i := 5) (by assumption) rfl rfl rfl rfl rfl rfl ?_)
    | refine x_op rfl (s_box rfl rfl fun b hb => ?_) | refine x_op rfl (s_alloc (by assumption) rfl fun b hb => ?_))
      refine x_op rfl (x_val (r_indexAddr u22 i36 rfl rfl ⟨by omega, by omega⟩) rfl ?_)
      refine x_op rfl (x_val (r_loadN [.string p.1, .string p.2] z36 rfl rfl fun w hS => pair_ (hS.rd0 hr) hc) rfl ?_)
      repeat (first
    | refine x_region ?_ | refine x_nil ?_ | refine x_tend ?_
    | refine x_off rfl rfl ?_ | refine x_off0 rfl ?_
    | refine x_op rfl (x_val (r_move rfl) rfl ?_)
    | refine x_op rfl (x_val (r_assign rfl) rfl ?_)
    | refine x_op rfl (x_val (r_extract rfl rfl) rfl ?_)
    | refine x_op rfl (x_val (r_pick_t rfl rfl) rfl ?_)
    | refine x_op rfl (x_val (r_pick_f rfl rfl) rfl ?_)
    | refine x_op rfl (x_val (r_fieldAddr (by assumption) rfl) rfl ?_)
    | refine x_op rfl (x_val (by first | exact r_own_add (i := 0) (by assumption) rfl rfl rfl | exact r_own_add (i := 1) (by assumption) rfl rfl rfl | exact r_own_add (i := 2) (by assumption) rfl rfl rfl | exact r_own_add (i := 3) (by assumption) rfl rfl rfl | exact r_own_add (i := 4) (by assumption) rfl rfl rfl | exact r_own_add (i := 5) (by assumption) rfl rfl rfl | exact r_own (i := 0) (by assumption) rfl rfl rfl | exact r_own (i := 1) (by assumption) rfl rfl rfl | exact r_own (i := 2) (by assumption) rfl rfl rfl | exact r_own (i := 3) (by assumption) rfl rfl rfl | exact r_own (i := 4) (by assumption) rfl rfl rfl | exact r_own (i := 5) (by assumption) rfl rfl rfl) rfl ?_)
    | refine x_op rfl (x_val (r_len_string (by assumption) rfl) rfl ?_)
    | refine x_op rfl (x_val (r_len_slice (by assumption) rfl) rfl ?_)
    | refine x_op rfl (x_val (r_cap_slice (by assumption) rfl) rfl ?_)
    | refine x_op rfl (x_val (r_not rfl rfl) rfl ?_)
    | refine x_op rfl (x_val (r_add rfl rfl ⟨by omega, by omega⟩) rfl ?_)
    | refine x_op rfl (x_val (r_sub rfl rfl ⟨by omega, by omega⟩) rfl ?_)
    | refine x_op rfl (x_val (r_build (by assumption) (by assumption) rfl rfl) rfl ?_)
    | refine x_op rfl (x_val (r_nilCheck rfl) rfl ?_)
    | refine x_op rfl (x_val (r_lss (r := true) rfl rfl (decide_eq_true (by omega))) rfl ?_)
    | refine x_op rfl (x_val (r_lss (r := false) rfl rfl (decide_eq_false (by omega))) rfl ?_)
    | refine x_op rfl (x_val (r_leq (r := true) rfl rfl (decide_eq_true (by omega))) rfl ?_)
    | refine x_op rfl (x_val (r_leq (r := false) rfl rfl (decide_eq_false (by omega))) rfl ?_)
    | refine x_op rfl (x_val (r_gtr (r := true) rfl rfl (decide_eq_true (by omega))) rfl ?_)
    | refine x_op rfl (x_val (r_gtr (r := false) rfl rfl (decide_eq_false (by omega))) rfl ?_)
    | refine x_op rfl (x_val (r_geq (r := true) rfl rfl (decide_eq_true (by omega))) rfl ?_)
    | refine x_op rfl (x_val (r_geq (r := false) rfl rfl (decide_eq_false (by omega))) rfl ?_)
    | refine x_op rfl (x_val (r_eql (r := true) rfl rfl (decide_eq_true (by omega))) rfl ?_)
    | refine x_op rfl (x_val (r_eql (r := false) rfl rfl (decide_eq_false (by omega))) rfl ?_)
    | refine x_op rfl (x_val (r_neq (r := true) rfl rfl (decide_eq_true (by omega))) rfl ?_)
    | refine x_op rfl (x_val (r_neq (r := false) rfl rfl (decide_eq_false (by omega))) rfl ?_)
    | refine x_op rfl (x_val (by first | exact r_ownN (i := 0) (by assumption) rfl rfl rfl | exact r_ownN (i := 1) (by assumption) rfl rfl rfl | exact r_ownN (i := 2) (by assumption) rfl rfl rfl | exact r_ownN (i := 3) (by assumption) rfl rfl rfl | exact r_ownN (i := 4) (by assumption) rfl rfl rfl | exact r_ownN (i := 5) (by assumption) rfl rfl rfl) rfl ?_)
    | refine x_op rfl (s_store (i := 0) (by assumption) rfl rfl rfl rfl rfl rfl ?_)
    | refine x_op rfl (s_store (i := 1) (by assumption) rfl rfl rfl rfl rfl rfl ?_)
    | refine x_op rfl (s_store (i := 2) (by assumption) rfl rfl rfl rfl rfl rfl ?_)
    | refine x_op rfl (s_store (i := 3) (by assumption) rfl rfl rfl rfl rfl rfl ?_)
    | refine x_op rfl (s_store (i := 4) (by assumption) rfl rfl rfl rfl rfl rfl ?_)
    | refine x_op rfl (s_store (i := 5) (by assumption) rfl rfl rfl rfl rfl rfl ?_)
    | refine x_op rfl (s_box rfl rfl fun b hb => ?_) | refine x_op rfl (s_alloc (by assumption) rfl fun b hb => ?_))
      obtain ⟨b7, hbb⟩ : ∃ x, x = b := ⟨b, rfl⟩; subst hbb
      refine x_seq ?_
      repeat (first
    | refine x_region ?_ | refine x_nil ?_ | refine x_tend ?_
    | refine x_off rfl rfl ?_ | refine x_off0 rfl ?_
    | refine x_op rfl (x_val (r_move rfl) rfl ?_)
    | refine x_op rfl (x_val (r_assign rfl) rfl ?_)
    | refine x_op rfl (x_val (r_extract rfl rfl) rfl ?_)
    | refine x_op rfl (x_val (r_pick_t rfl rfl) rfl ?_)
    | refine x_op rfl (x_val (r_pick_f rfl rfl) rfl ?_)
    | refine x_op rfl (x_val (r_fieldAddr (by assumption) rfl) rfl ?_)
    | refine x_op rfl (x_val (by first | exact r_own_add (i := 0) (by assumption) rfl rfl rfl | exact r_own_add (i := 1) (by assumption) rfl rfl rfl | exact r_own_add (i := 2) (by assumption) rfl rfl rfl | exact r_own_add (i := 3) (by assumption) rfl rfl rfl | exact r_own_add (i := 4) (by assumption) rfl rfl rfl | exact r_own_add (i := 5) (by assumption) rfl rfl rfl | exact r_own (i := 0) (by assumption) rfl rfl rfl | exact r_own (i := 1) (by assumption) rfl rfl rfl | exact r_own (i := 2) (by assumption) rfl rfl rfl | exact r_own (i := 3) (by assumption) rfl rfl rfl | exact r_own (i := 4) (by assumption) rfl rfl rfl | exact r_own (i := 5) (by assumption) rfl rfl rfl) rfl ?_)
    | refine x_op rfl (x_val (r_len_string (by assumption) rfl) rfl ?_)
    | refine x_op rfl (x_val (r_len_slice (by assumption) rfl) rfl ?_)
    | refine x_op rfl (x_val (r_cap_slice (by assumption) rfl) rfl ?_)
    | refine x_op rfl (x_val (r_not rfl rfl) rfl ?_)
    | refine x_op rfl (x_val (r_add rfl rfl ⟨by omega, by omega⟩) rfl ?_)
    | refine x_op rfl (x_val (r_sub rfl rfl ⟨by omega, by omega⟩) rfl ?_)
    | refine x_op rfl (x_val (r_build (by assumption) (by assumption) rfl rfl) rfl ?_)
    | refine x_op rfl (x_val (r_nilCheck rfl) rfl ?_)
    | refine x_op rfl (x_val (r_lss (r := true) rfl rfl (decide_eq_true (by omega))) rfl ?_)
    | refine x_op rfl (x_val (r_lss (r := false) rfl rfl (decide_eq_false (by omega))) rfl ?_)
    | refine x_op rfl (x_val (r_leq (r := true) rfl rfl (decide_eq_true (by omega))) rfl ?_)
    | refine x_op rfl (x_val (r_leq (r := false) rfl rfl (decide_eq_false (by omega))) rfl ?_)
    | refine x_op rfl (x_val (r_gtr (r := true) rfl rfl (decide_eq_true (by omega))) rfl ?_)
    | refine x_op rfl (x_val (r_gtr (r := false) rfl rfl (decide_eq_false (by omega))) rfl ?_)
    | refine x_op rfl (x_val (r_geq (r := true) rfl rfl (decide_eq_true (by omega))) rfl ?_)
    | refine x_op rfl (x_val (r_geq (r := false) rfl rfl (decide_eq_false (by omega))) rfl ?_)
    | refine x_op rfl (x_val (r_eql (r := true) rfl rfl (decide_eq_true (by omega))) rfl ?_)
    | refine x_op rfl (x_val (r_eql (r := false) rfl rfl (decide_eq_false (by omega))) rfl ?_)
    | refine x_op rfl (x_val (r_neq (r := true) rfl rfl (decide_eq_true (by omega))) rfl ?_)
    | refine x_op rfl (x_val (r_neq (r := false) rfl rfl (decide_eq_false (by omega))) rfl ?_)
    | refine x_op rfl (x_val (by first | exact r_ownN (i := 0) (by assumption) rfl rfl rfl | exact r_ownN (i := 1) (by assumption) rfl rfl rfl | exact r_ownN (i := 2) (by assumption) rfl rfl rfl | exact r_ownN (i := 3) (by assumption) rfl rfl rfl | exact r_ownN (i := 4) (by assumption) rfl rfl rfl | exact r_ownN (i := 5) (by assumption) rfl rfl rfl) rfl ?_)
    | refine x_op rfl (s_store (i := 0) (by assumption) rfl rfl rfl rfl rfl rfl ?_)
    | refine x_op rfl (s_store (i := 1) (by assumption) rfl rfl rfl rfl rfl rfl ?_)
    | refine x_op rfl (s_store (i := 2) (by assumption) rfl rfl rfl rfl rfl rfl ?_)
    | refine x_op rfl (s_store (i := 3) (by assumption) rfl rfl rfl rfl rfl rfl ?_)
    | refine x_op rfl (s_store (i := 4) (by assumption) rfl rfl rfl rfl rfl rfl ?_)
    | refine x_op rfl (s_store (i := 5) (by assumption) rfl rfl rfl rfl rfl rfl ?_)
    | refine x_op rfl (s_box rfl rfl fun b hb => ?_) | refine x_op rfl (s_alloc (by assumption) rfl fun b hb => ?_))
      refine x_op rfl (x_val (r_conv_int u3 u5 rfl ((IntKind.wrap_u8 _).trans (by simp : _ = ((UInt8.ofNat p.1.size).toNat : Int)))) rfl ?_)
      refine x_op rfl (s_call Ty.c18 rfl rfl (fun w hw => WB_ b4 (me b4) A4 cap4 (encHdr N ++ encCells (N.cs.take i)) (UInt8.ofNat p.1.size) w (.inr rfl) hk4 (hw.sub_ (L := (bl b7 36 #[.string p.1, .string p.2] :: (BL b4 (me b4) A4 cap4 (encHdr N ++ encCells (N.cs.take i)) ++ [bl b1 26 #[.bool N.br, .int .i64 N.first, .slice (some ad) N.cs.length c]]))) [1, 2] (by decide)) (by simp only [List.length_append, List.length_cons, List.length_nil]; omega)) (fun wq v wq1 hw h => ?_))
      obtain ⟨rfl, A5, cap5, hk5, hO⟩ := h
      refine ⟨_, hw.swap_ (L := (bl b7 36 #[.string p.1, .string p.2] :: (BL b4 (me b4) A4 cap4 (encHdr N ++ encCells (N.cs.take i)) ++ [bl b1 26 #[.bool N.br, .int .i64 N.first, .slice (some ad) N.cs.length c]]))) [1, 2] [0, 3] (by decide) hO, ?_⟩
      repeat (first
    | refine x_seq ?_ | refine x_region ?_ | refine x_nil ?_ | refine x_block ?_ | refine x_skip ?_ | refine x_exit rfl ?_ | refine x_true rfl ?_ | refine x_false rfl ?_ | refine x_ret ?_ | refine x_tend ?_
    | refine x_off rfl rfl ?_ | refine x_off0 rfl ?_
    | refine x_op rfl (x_val (r_move rfl) rfl ?_)
    | refine x_op rfl (x_val (r_assign rfl) rfl ?_)
    | refine x_op rfl (x_val (r_extract rfl rfl) rfl ?_)
    | refine x_op rfl (x_val (r_pick_t rfl rfl) rfl ?_)
    | refine x_op rfl (x_val (r_pick_f rfl rfl) rfl ?_)
    | refine x_op rfl (x_val (r_fieldAddr (by assumption) rfl) rfl ?_)
    | refine x_op rfl (x_val (by first | exact r_own_add (i := 0) (by assumption) rfl rfl rfl | exact r_own_add (i := 1) (by assumption) rfl rfl rfl | exact r_own_add (i := 2) (by assumption) rfl rfl rfl | exact r_own_add (i := 3) (by assumption) rfl rfl rfl | exact r_own_add (i := 4) (by assumption) rfl rfl rfl | exact r_own_add (i := 5) (by assumption) rfl rfl rfl | exact r_own (i := 0) (by assumption) rfl rfl rfl | exact r_own (i := 1) (by assumption) rfl rfl rfl | exact r_own (i := 2) (by assumption) rfl rfl rfl | exact r_own (i := 3) (by assumption) rfl rfl rfl | exact r_own (i := 4) (by assumption) rfl rfl rfl | exact r_own (i := 5) (by assumption) rfl rfl rfl) rfl ?_)
    | refine x_op rfl (x_val (r_len_string (by assumption) rfl) rfl ?_)
    | refine x_op rfl (x_val (r_len_slice (by assumption) rfl) rfl ?_)
    | refine x_op rfl (x_val (r_cap_slice (by assumption) rfl) rfl ?_)
    | refine x_op rfl (x_val (r_not rfl rfl) rfl ?_)
    | refine x_op rfl (x_val (r_add rfl rfl ⟨by omega, by omega⟩) rfl ?_)
    | refine x_op rfl (x_val (r_sub rfl rfl ⟨by omega, by omega⟩) rfl ?_)
    | refine x_op rfl (x_val (r_build (by assumption) (by assumption) rfl rfl) rfl ?_)
    | refine x_op rfl (x_val (r_nilCheck rfl) rfl ?_)
    | refine x_op rfl (x_val (r_lss (r := true) rfl rfl (decide_eq_true (by omega))) rfl ?_)
    | refine x_op rfl (x_val (r_lss (r := false) rfl rfl (decide_eq_false (by omega))) rfl ?_)
    | refine x_op rfl (x_val (r_leq (r := true) rfl rfl (decide_eq_true (by omega))) rfl ?_)
    | refine x_op rfl (x_val (r_leq (r := false) rfl rfl (decide_eq_false (by omega))) rfl ?_)
    | refine x_op rfl (x_val (r_gtr (r := true) rfl rfl (decide_eq_true (by omega))) rfl ?_)
    | refine x_op rfl (x_val (r_gtr (r := false) rfl rfl (decide_eq_false (by omega))) rfl ?_)
    | refine x_op rfl (x_val (r_geq (r := true) rfl rfl (decide_eq_true (by omega))) rfl ?_)
    | refine x_op rfl (x_val (r_geq (r := false) rfl rfl (decide_eq_false (by omega))) rfl ?_)
    | refine x_op rfl (x_val (r_eql (r := true) rfl rfl (decide_eq_true (by omega))) rfl ?_)
    | refine x_op rfl (x_val (r_eql (r := false) rfl rfl (decide_eq_false (by omega))) rfl ?_)
    | refine x_op rfl (x_val (r_neq (r := true) rfl rfl (decide_eq_true (by omega))) rfl ?_)
    | refine x_op rfl (x_val (r_neq (r := false) rfl rfl (decide_eq_false (by omega))) rfl ?_)
    | refine x_op rfl (x_val (by first | exact r_ownN (i := 0) (by assumption) rfl rfl rfl | exact r_ownN (i := 1) (by assumption) rfl rfl rfl | exact r_ownN (i := 2) (by assumption) rfl rfl rfl | exact r_ownN (i := 3) (by assumption) rfl rfl rfl | exact r_ownN (i := 4) (by assumption) rfl rfl rfl | exact r_ownN (i := 5) (by assumption) rfl rfl rfl) rfl ?_)
    | refine x_op rfl (s_store (i := 0) (by assumption) rfl rfl rfl rfl rfl rfl ?_)
    | refine x_op rfl (s_store (i := 1) (by assumption) rfl rfl rfl rfl rfl rfl ?_)
    | refine x_op rfl (s_store (i := 2) (by assumption) rfl rfl rfl rfl rfl rfl ?_)
    | refine x_op rfl (s_store (i := 3) (by assumption) rfl rfl rfl rfl rfl rfl ?_)
    | refine x_op rfl (s_store (i := 4) (by assumption) rfl rfl rfl rfl rfl rfl ?_)
    | refine x_op rfl (s_store (i := 5) (by assumption) rfl rfl rfl rfl rfl rfl ?_)
    | refine x_op rfl (s_box rfl rfl fun b hb => ?_) | refine x_op rfl (s_alloc (by assumption) rfl fun b hb => ?_))
      refine x_op rfl (x_val (r_conv_int u3 u5 rfl ((IntKind.wrap_u8 _).trans (by simp : _ = ((UInt8.ofNat p.2.size).toNat : Int)))) rfl ?_)
      refine x_op rfl (s_call Ty.c18 rfl rfl (fun w hw => WB_ b4 (me b4) A5 cap5 (encHdr N ++ encCells (N.cs.take i) ++ [UInt8.ofNat p.1.size]) (UInt8.ofNat p.2.size) w (.inr rfl) hk5 (hw.sub_ (L := (BL b4 (me b4) A5 cap5 (encHdr N ++ encCells (N.cs.take i) ++ [UInt8.ofNat p.1.size]) ++ [bl b7 36 #[.string p.1, .string p.2], bl b1 26 #[.bool N.br, .int .i64 N.first, .slice (some ad) N.cs.length c]])) [0, 1] (by decide)) (by simp only [List.length_append, List.length_cons, List.length_nil]; omega)) (fun wq v wq1 hw h => ?_))
      obtain ⟨rfl, A6, cap6, hk6, hO⟩ := h
      refine ⟨_, hw.swap_ (L := (BL b4 (me b4) A5 cap5 (encHdr N ++ encCells (N.cs.take i) ++ [UInt8.ofNat p.1.size]) ++ [bl b7 36 #[.string p.1, .string p.2], bl b1 26 #[.bool N.br, .int .i64 N.first, .slice (some ad) N.cs.length c]])) [0, 1] [2, 3] (by decide) hO, ?_⟩
      repeat (first
    | refine x_seq ?_ | refine x_region ?_ | refine x_nil ?_ | refine x_block ?_ | refine x_skip ?_ | refine x_exit rfl ?_ | refine x_true rfl ?_ | refine x_false rfl ?_ | refine x_ret ?_ | refine x_tend ?_
    | refine x_off rfl rfl ?_ | refine x_off0 rfl ?_
    | refine x_op rfl (x_val (r_move rfl) rfl ?_)
    | refine x_op rfl (x_val (r_assign rfl) rfl ?_)
    | refine x_op rfl (x_val (r_extract rfl rfl) rfl ?_)
    | refine x_op rfl (x_val (r_pick_t rfl rfl) rfl ?_)
    | refine x_op rfl (x_val (r_pick_f rfl rfl) rfl ?_)
    | refine x_op rfl (x_val (r_fieldAddr (by assumption) rfl) rfl ?_)
    | refine x_op rfl (x_val (by first | exact r_own_add (i := 0) (by assumption) rfl rfl rfl | exact r_own_add (i := 1) (by assumption) rfl rfl rfl | exact r_own_add (i := 2) (by assumption) rfl rfl rfl | exact r_own_add (i := 3) (by assumption) rfl rfl rfl | exact r_own_add (i := 4) (by assumption) rfl rfl rfl | exact r_own_add (i := 5) (by assumption) rfl rfl rfl | exact r_own (i := 0) (by assumption) rfl rfl rfl | exact r_own (i := 1) (by assumption) rfl rfl rfl | exact r_own (i := 2) (by assumption) rfl rfl rfl | exact r_own (i := 3) (by assumption) rfl rfl rfl | exact r_own (i := 4) (by assumption) rfl rfl rfl | exact r_own (i := 5) (by assumption) rfl rfl rfl) rfl ?_)
    | refine x_op rfl (x_val (r_len_string (by assumption) rfl) rfl ?_)
    | refine x_op rfl (x_val (r_len_slice (by assumption) rfl) rfl ?_)
    | refine x_op rfl (x_val (r_cap_slice (by assumption) rfl) rfl ?_)
    | refine x_op rfl (x_val (r_not rfl rfl) rfl ?_)
    | refine x_op rfl (x_val (r_add rfl rfl ⟨by omega, by omega⟩) rfl ?_)
    | refine x_op rfl (x_val (r_sub rfl rfl ⟨by omega, by omega⟩) rfl ?_)
    | refine x_op rfl (x_val (r_build (by assumption) (by assumption) rfl rfl) rfl ?_)
    | refine x_op rfl (x_val (r_nilCheck rfl) rfl ?_)
    | refine x_op rfl (x_val (r_lss (r := true) rfl rfl (decide_eq_true (by omega))) rfl ?_)
    | refine x_op rfl (x_val (r_lss (r := false) rfl rfl (decide_eq_false (by omega))) rfl ?_)
    | refine x_op rfl (x_val (r_leq (r := true) rfl rfl (decide_eq_true (by omega))) rfl ?_)
    | refine x_op rfl (x_val (r_leq (r := false) rfl rfl (decide_eq_false (by omega))) rfl ?_)
    | refine x_op rfl (x_val (r_gtr (r := true) rfl rfl (decide_eq_true (by omega))) rfl ?_)
    | refine x_op rfl (x_val (r_gtr (r := false) rfl rfl (decide_eq_false (by omega))) rfl ?_)
    | refine x_op rfl (x_val (r_geq (r := true) rfl rfl (decide_eq_true (by omega))) rfl ?_)
    | refine x_op rfl (x_val (r_geq (r := false) rfl rfl (decide_eq_false (by omega))) rfl ?_)
    | refine x_op rfl (x_val (r_eql (r := true) rfl rfl (decide_eq_true (by omega))) rfl ?_)
    | refine x_op rfl (x_val (r_eql (r := false) rfl rfl (decide_eq_false (by omega))) rfl ?_)
    | refine x_op rfl (x_val (r_neq (r := true) rfl rfl (decide_eq_true (by omega))) rfl ?_)
    | refine x_op rfl (x_val (r_neq (r := false) rfl rfl (decide_eq_false (by omega))) rfl ?_)
    | refine x_op rfl (x_val (by first | exact r_ownN (i := 0) (by assumption) rfl rfl rfl | exact r_ownN (i := 1) (by assumption) rfl rfl rfl | exact r_ownN (i := 2) (by assumption) rfl rfl rfl | exact r_ownN (i := 3) (by assumption) rfl rfl rfl | exact r_ownN (i := 4) (by assumption) rfl rfl rfl | exact r_ownN (i := 5) (by assumption) rfl rfl rfl) rfl ?_)
    | refine x_op rfl (s_store (i := 0) (by assumption) rfl rfl rfl rfl rfl rfl ?_)
    | refine x_op rfl (s_store (i := 1) (by assumption) rfl rfl rfl rfl rfl rfl ?_)
    | refine x_op rfl (s_store (i := 2) (by assumption) rfl rfl rfl rfl rfl rfl ?_)
    | refine x_op rfl (s_store (i := 3) (by assumption) rfl rfl rfl rfl rfl rfl ?_)
    | refine x_op rfl (s_store (i := 4) (by assumption) rfl rfl rfl rfl rfl rfl ?_)
    | refine x_op rfl (s_store (i := 5) (by assumption) rfl rfl rfl rfl rfl rfl ?_)
    | refine x_op rfl (s_box rfl rfl fun b hb => ?_) | refine x_op rfl (s_alloc (by assumption) rfl fun b hb => ?_))
      refine x_op rfl (s_call Ty.c19 rfl rfl (fun w hw => WS_ b4 (me b4) A6 cap6 (encHdr N ++ encCells (N.cs.take i) ++ [UInt8.ofNat p.1.size] ++ [UInt8.ofNat p.2.size]) p.1 w (.inr rfl) hk6 (hw.sub_ (L := (BL b4 (me b4) A6 cap6 (encHdr N ++ encCells (N.cs.take i) ++ [UInt8.ofNat p.1.size] ++ [UInt8.ofNat p.2.size]) ++ [bl b7 36 #[.string p.1, .string p.2], bl b1 26 #[.bool N.br, .int .i64 N.first, .slice (some ad) N.cs.length c]])) [0, 1] (by decide)) (by simp only [List.length_append, List.length_cons, List.length_nil]; omega)) (fun wq v wq1 hw h => ?_))
      obtain ⟨rfl, A7, cap7, hk7, hO⟩ := h
      refine ⟨_, hw.swap_ (L := (BL b4 (me b4) A6 cap6 (encHdr N ++ encCells (N.cs.take i) ++ [UInt8.ofNat p.1.size] ++ [UInt8.ofNat p.2.size]) ++ [bl b7 36 #[.string p.1, .string p.2], bl b1 26 #[.bool N.br, .int .i64 N.first, .slice (some ad) N.cs.length c]])) [0, 1] [2, 3] (by decide) hO, ?_⟩
      repeat (first
    | refine x_seq ?_ | refine x_region ?_ | refine x_nil ?_ | refine x_block ?_ | refine x_skip ?_ | refine x_exit rfl ?_ | refine x_true rfl ?_ | refine x_false rfl ?_ | refine x_ret ?_ | refine x_tend ?_
    | refine x_off rfl rfl ?_ | refine x_off0 rfl ?_
    | refine x_op rfl (x_val (r_move rfl) rfl ?_)
    | refine x_op rfl (x_val (r_assign rfl) rfl ?_)
    | refine x_op rfl (x_val (r_extract rfl rfl) rfl ?_)
    | refine x_op rfl (x_val (r_pick_t rfl rfl) rfl ?_)
    | refine x_op rfl (x_val (r_pick_f rfl rfl) rfl ?_)
    | refine x_op rfl (x_val (r_fieldAddr (by assumption) rfl) rfl ?_)
    | refine x_op rfl (x_val (by first | exact r_own_add (i := 0) (by assumption) rfl rfl rfl | exact r_own_add (i := 1) (by assumption) rfl rfl rfl | exact r_own_add (i := 2) (by assumption) rfl rfl rfl | exact r_own_add (i := 3) (by assumption) rfl rfl rfl | exact r_own_add (i := 4) (by assumption) rfl rfl rfl | exact r_own_add (i := 5) (by assumption) rfl rfl rfl | exact r_own (i := 0) (by assumption) rfl rfl rfl | exact r_own (i := 1) (by assumption) rfl rfl rfl | exact r_own (i := 2) (by assumption) rfl rfl rfl | exact r_own (i := 3) (by assumption) rfl rfl rfl | exact r_own (i := 4) (by assumption) rfl rfl rfl | exact r_own (i := 5) (by assumption) rfl rfl rfl) rfl ?_)
    | refine x_op rfl (x_val (r_len_string (by assumption) rfl) rfl ?_)
    | refine x_op rfl (x_val (r_len_slice (by assumption) rfl) rfl ?_)
    | refine x_op rfl (x_val (r_cap_slice (by assumption) rfl) rfl ?_)
    | refine x_op rfl (x_val (r_not rfl rfl) rfl ?_)
    | refine x_op rfl (x_val (r_add rfl rfl ⟨by omega, by omega⟩) rfl ?_)
    | refine x_op rfl (x_val (r_sub rfl rfl ⟨by omega, by omega⟩) rfl ?_)
    | refine x_op rfl (x_val (r_build (by assumption) (by assumption) rfl rfl) rfl ?_)
    | refine x_op rfl (x_val (r_nilCheck rfl) rfl ?_)
    | refine x_op rfl (x_val (r_lss (r := true) rfl rfl (decide_eq_true (by omega))) rfl ?_)
    | refine x_op rfl (x_val (r_lss (r := false) rfl rfl (decide_eq_false (by omega))) rfl ?_)
    | refine x_op rfl (x_val (r_leq (r := true) rfl rfl (decide_eq_true (by omega))) rfl ?_)
    | refine x_op rfl (x_val (r_leq (r := false) rfl rfl (decide_eq_false (by omega))) rfl ?_)
    | refine x_op rfl (x_val (r_gtr (r := true) rfl rfl (decide_eq_true (by omega))) rfl ?_)
    | refine x_op rfl (x_val (r_gtr (r := false) rfl rfl (decide_eq_false (by omega))) rfl ?_)
    | refine x_op rfl (x_val (r_geq (r := true) rfl rfl (decide_eq_true (by omega))) rfl ?_)
    | refine x_op rfl (x_val (r_geq (r := false) rfl rfl (decide_eq_false (by omega))) rfl ?_)
    | refine x_op rfl (x_val (r_eql (r := true) rfl rfl (decide_eq_true (by omega))) rfl ?_)
    | refine x_op rfl (x_val (r_eql (r := false) rfl rfl (decide_eq_false (by omega))) rfl ?_)
    | refine x_op rfl (x_val (r_neq (r := true) rfl rfl (decide_eq_true (by omega))) rfl ?_)
    | refine x_op rfl (x_val (r_neq (r := false) rfl rfl (decide_eq_false (by omega))) rfl ?_)
    | refine x_op rfl (x_val (by first | exact r_ownN (i := 0) (by assumption) rfl rfl rfl | exact r_ownN (i := 1) (by assumption) rfl rfl rfl | exact r_ownN (i := 2) (by assumption) rfl rfl rfl | exact r_ownN (i := 3) (by assumption) rfl rfl rfl | exact r_ownN (i := 4) (by assumption) rfl rfl rfl | exact r_ownN (i := 5) (by assumption) rfl rfl rfl) rfl ?_)
    | refine x_op rfl (s_store (i := 0) (by assumption) rfl rfl rfl rfl rfl rfl ?_)
    | refine x_op rfl (s_store (i := 1) (by assumption) rfl rfl rfl rfl rfl rfl ?_)
    | refine x_op rfl (s_store (i := 2) (by assumption) rfl rfl rfl rfl rfl rfl ?_)
    | refine x_op rfl (s_store (i := 3) (by assumption) rfl rfl rfl rfl rfl rfl ?_)
    | refine x_op rfl (s_store (i := 4) (by assumption) rfl rfl rfl rfl rfl rfl ?_)
    | refine x_op rfl (s_store (i := 5) (by assumption) rfl rfl rfl rfl rfl rfl ?_)
    | refine x_op rfl (s_box rfl rfl fun b hb => ?_) | refine x_op rfl (s_alloc (by assumption) rfl fun b hb => ?_))
      refine x_op rfl (s_call Ty.c19 rfl rfl (fun w hw => WS_ b4 (me b4) A7 cap7 (encHdr N ++ encCells (N.cs.take i) ++ [UInt8.ofNat p.1.size] ++ [UInt8.ofNat p.2.size] ++ p.1.data.toList) p.2 w (.inr rfl) hk7 (hw.sub_ (L := (BL b4 (me b4) A7 cap7 (encHdr N ++ encCells (N.cs.take i) ++ [UInt8.ofNat p.1.size] ++ [UInt8.ofNat p.2.size] ++ p.1.data.toList) ++ [bl b7 36 #[.string p.1, .string p.2], bl b1 26 #[.bool N.br, .int .i64 N.first, .slice (some ad) N.cs.length c]])) [0, 1] (by decide)) (by simp only [List.length_append, List.length_cons, List.length_nil]; omega)) (fun wq v wq1 hw h => ?_))
      obtain ⟨rfl, A8, cap8, hk8, hO⟩ := h
      refine ⟨_, hw.swap_ (L := (BL b4 (me b4) A7 cap7 (encHdr N ++ encCells (N.cs.take i) ++ [UInt8.ofNat p.1.size] ++ [UInt8.ofNat p.2.size] ++ p.1.data.toList) ++ [bl b7 36 #[.string p.1, .string p.2], bl b1 26 #[.bool N.br, .int .i64 N.first, .slice (some ad) N.cs.length c]])) [0, 1] [2, 3] (by decide) hO, ?_⟩
      repeat (first
    | refine x_seq ?_ | refine x_region ?_ | refine x_nil ?_ | refine x_block ?_ | refine x_skip ?_ | refine x_exit rfl ?_ | refine x_true rfl ?_ | refine x_false rfl ?_ | refine x_ret ?_ | refine x_tend ?_
    | refine x_off rfl rfl ?_ | refine x_off0 rfl ?_
    | refine x_op rfl (x_val (r_move rfl) rfl ?_)
    | refine x_op rfl (x_val (r_assign rfl) rfl ?_)
    | refine x_op rfl (x_val (r_extract rfl rfl) rfl ?_)
    | refine x_op rfl (x_val (r_pick_t rfl rfl) rfl ?_)
    | refine x_op rfl (x_val (r_pick_f rfl rfl) rfl ?_)
    | refine x_op rfl (x_val (r_fieldAddr (by assumption) rfl) rfl ?_)
    | refine x_op rfl (x_val (by first | exact r_own_add (i := 0) (by assumption) rfl rfl rfl | exact r_own_add (i := 1) (by assumption) rfl rfl rfl | exact r_own_add (i := 2) (by assumption) rfl rfl rfl | exact r_own_add (i := 3) (by assumption) rfl rfl rfl | exact r_own_add (i := 4) (by assumption) rfl rfl rfl | exact r_own_add (i := 5) (by assumption) rfl rfl rfl | exact r_own (i := 0) (by assumption) rfl rfl rfl | exact r_own (i := 1) (by assumption) rfl rfl rfl | exact r_own (i := 2) (by assumption) rfl rfl rfl | exact r_own (i := 3) (by assumption) rfl rfl rfl | exact r_own (i := 4) (by assumption) rfl rfl rfl | exact r_own (i := 5) (by assumption) rfl rfl rfl) rfl ?_)
    | refine x_op rfl (x_val (r_len_string (by assumption) rfl) rfl ?_)
    | refine x_op rfl (x_val (r_len_slice (by assumption) rfl) rfl ?_)
    | refine x_op rfl (x_val (r_cap_slice (by assumption) rfl) rfl ?_)
    | refine x_op rfl (x_val (r_not rfl rfl) rfl ?_)
    | refine x_op rfl (x_val (r_add rfl rfl ⟨by omega, by omega⟩) rfl ?_)
    | refine x_op rfl (x_val (r_sub rfl rfl ⟨by omega, by omega⟩) rfl ?_)
    | refine x_op rfl (x_val (r_build (by assumption) (by assumption) rfl rfl) rfl ?_)
    | refine x_op rfl (x_val (r_nilCheck rfl) rfl ?_)
    | refine x_op rfl (x_val (r_lss (r := true) rfl rfl (decide_eq_true (by omega))) rfl ?_)
    | refine x_op rfl (x_val (r_lss (r := false) rfl rfl (decide_eq_false (by omega))) rfl ?_)
    | refine x_op rfl (x_val (r_leq (r := true) rfl rfl (decide_eq_true (by omega))) rfl ?_)
    | refine x_op rfl (x_val (r_leq (r := false) rfl rfl (decide_eq_false (by omega))) rfl ?_)
    | refine x_op rfl (x_val (r_gtr (r := true) rfl rfl (decide_eq_true (by omega))) rfl ?_)
    | refine x_op rfl (x_val (r_gtr (r := false) rfl rfl (decide_eq_false (by omega))) rfl ?_)
    | refine x_op rfl (x_val (r_geq (r := true) rfl rfl (decide_eq_true (by omega))) rfl ?_)
    | refine x_op rfl (x_val (r_geq (r := false) rfl rfl (decide_eq_false (by omega))) rfl ?_)
    | refine x_op rfl (x_val (r_eql (r := true) rfl rfl (decide_eq_true (by omega))) rfl ?_)
    | refine x_op rfl (x_val (r_eql (r := false) rfl rfl (decide_eq_false (by omega))) rfl ?_)
    | refine x_op rfl (x_val (r_neq (r := true) rfl rfl (decide_eq_true (by omega))) rfl ?_)
    | refine x_op rfl (x_val (r_neq (r := false) rfl rfl (decide_eq_false (by omega))) rfl ?_)
    | refine x_op rfl (x_val (by first | exact r_ownN (i := 0) (by assumption) rfl rfl rfl | exact r_ownN (i := 1) (by assumption) rfl rfl rfl | exact r_ownN (i := 2) (by assumption) rfl rfl rfl | exact r_ownN (i := 3) (by assumption) rfl rfl rfl | exact r_ownN (i := 4) (by assumption) rfl rfl rfl | exact r_ownN (i := 5) (by assumption) rfl rfl rfl) rfl ?_)
    | refine x_op rfl (s_store (i := 0) (by assumption) rfl rfl rfl rfl rfl rfl ?_)
    | refine x_op rfl (s_store (i := 1) (by assumption) rfl rfl rfl rfl rfl rfl ?_)
    | refine x_op rfl (s_store (i := 2) (by assumption) rfl rfl rfl rfl rfl rfl ?_)
    | refine x_op rfl (s_store (i := 3) (by assumption) rfl rfl rfl rfl rfl rfl ?_)
    | refine x_op rfl (s_store (i := 4) (by assumption) rfl rfl rfl rfl rfl rfl ?_)
    | refine x_op rfl (s_store (i := 5) (by assumption) rfl rfl rfl rfl rfl rfl ?_)
    | refine x_op rfl (s_box rfl rfl fun b hb => ?_) | refine x_op rfl (s_alloc (by assumption) rfl fun b hb => ?_))
      have e1 : encHdr N ++ encCells (N.cs.take (i + 1)) = encHdr N ++ encCells (N.cs.take i) ++ [UInt8.ofNat p.1.size] ++ [UInt8.ofNat p.2.size] ++ p.1.data.toList ++ p.2.data.toList := by rw [het]; simp [List.append_assoc]
      exact x_again (s := (i, A4, cap4)) (i + 1, A8, cap8) ⟨rfl, rfl, rfl, rfl, rfl, trivial⟩ (fun _ h => by simp only [e1]; exact h.pick_ [0, 1, 3] (by decide)) ⟨by omega, by simp only [e1]; exact hk8⟩ (by simp only []; omega)
    · have hin : i = N.cs.length := by omega
      have e1 : N.cs.take i = N.cs := by rw [hin]; exact List.take_length
      rw [e1] at hk4 ⊢
      repeat (first
    | refine x_seq ?_ | refine x_region ?_ | refine x_nil ?_ | refine x_block ?_ | refine x_skip ?_ | refine x_exit rfl ?_ | refine x_true rfl ?_ | refine x_false rfl ?_ | refine x_ret ?_ | refine x_tend ?_
    | refine x_off rfl rfl ?_ | refine x_off0 rfl ?_
    | refine x_op rfl (x_val (r_move rfl) rfl ?_)
    | refine x_op rfl (x_val (r_assign rfl) rfl ?_)
    | refine x_op rfl (x_val (r_extract rfl rfl) rfl ?_)
    | refine x_op rfl (x_val (r_pick_t rfl rfl) rfl ?_)
    | refine x_op rfl (x_val (r_pick_f rfl rfl) rfl ?_)
    | refine x_op rfl (x_val (r_fieldAddr (by assumption) rfl) rfl ?_)
    | refine x_op rfl (x_val (by first | exact r_own_add (i := 0) (by assumption) rfl rfl rfl | exact r_own_add (i := 1) (by assumption) rfl rfl rfl | exact r_own_add (i := 2) (by assumption) rfl rfl rfl | exact r_own_add (i := 3) (by assumption) rfl rfl rfl | exact r_own_add (i := 4) (by assumption) rfl rfl rfl | exact r_own_add (i := 5) (by assumption) rfl rfl rfl | exact r_own (i := 0) (by assumption) rfl rfl rfl | exact r_own (i := 1) (by assumption) rfl rfl rfl | exact r_own (i := 2) (by assumption) rfl rfl rfl | exact r_own (i := 3) (by assumption) rfl rfl rfl | exact r_own (i := 4) (by assumption) rfl rfl rfl | exact r_own (i := 5) (by assumption) rfl rfl rfl) rfl ?_)
    | refine x_op rfl (x_val (r_len_string (by assumption) rfl) rfl ?_)
    | refine x_op rfl (x_val (r_len_slice (by assumption) rfl) rfl ?_)
    | refine x_op rfl (x_val (r_cap_slice (by assumption) rfl) rfl ?_)
    | refine x_op rfl (x_val (r_not rfl rfl) rfl ?_)
    | refine x_op rfl (x_val (r_add rfl rfl ⟨by omega, by omega⟩) rfl ?_)
    | refine x_op rfl (x_val (r_sub rfl rfl ⟨by omega, by omega⟩) rfl ?_)
    | refine x_op rfl (x_val (r_build (by assumption) (by assumption) rfl rfl) rfl ?_)
    | refine x_op rfl (x_val (r_nilCheck rfl) rfl ?_)
    | refine x_op rfl (x_val (r_lss (r := true) rfl rfl (decide_eq_true (by omega))) rfl ?_)
    | refine x_op rfl (x_val (r_lss (r := false) rfl rfl (decide_eq_false (by omega))) rfl ?_)
    | refine x_op rfl (x_val (r_leq (r := true) rfl rfl (decide_eq_true (by omega))) rfl ?_)
    | refine x_op rfl (x_val (r_leq (r := false) rfl rfl (decide_eq_false (by omega))) rfl ?_)
    | refine x_op rfl (x_val (r_gtr (r := true) rfl rfl (decide_eq_true (by omega))) rfl ?_)
    | refine x_op rfl (x_val (r_gtr (r := false) rfl rfl (decide_eq_false (by omega))) rfl ?_)
    | refine x_op rfl (x_val (r_geq (r := true) rfl rfl (decide_eq_true (by omega))) rfl ?_)
    | refine x_op rfl (x_val (r_geq (r := false) rfl rfl (decide_eq_false (by omega))) rfl ?_)
    | refine x_op rfl (x_val (r_eql (r := true) rfl rfl (decide_eq_true (by omega))) rfl ?_)
    | refine x_op rfl (x_val (r_eql (r := false) rfl rfl (decide_eq_false (by omega))) rfl ?_)
    | refine x_op rfl (x_val (r_neq (r := true) rfl rfl (decide_eq_true (by omega))) rfl ?_)
    | refine x_op rfl (x_val (r_neq (r := false) rfl rfl (decide_eq_false (by omega))) rfl ?_)
    | refine x_op rfl (x_val (by first | exact r_ownN (i := 0) (by assumption) rfl rfl rfl | exact r_ownN (i := 1) (by assumption) rfl rfl rfl | exact r_ownN (i := 2) (by assumption) rfl rfl rfl | exact r_ownN (i := 3) (by assumption) rfl rfl rfl | exact r_ownN (i := 4) (by assumption) rfl rfl rfl | exact r_ownN (i := 5) (by assumption) rfl rfl rfl) rfl ?_)
    | refine x_op rfl (s_store (i := 0) (by assumption) rfl rfl rfl rfl rfl rfl ?_)
    | refine x_op rfl (s_store (i := 1) (by assumption) rfl rfl rfl rfl rfl rfl ?_)
    | refine x_op rfl (s_store (i := 2) (by assumption) rfl rfl rfl rfl rfl rfl ?_)
    | refine x_op rfl (s_store (i := 3) (by assumption) rfl rfl rfl rfl rfl rfl ?_)
    | refine x_op rfl (s_store (i := 4) (by assumption) rfl rfl rfl rfl rfl rfl ?_)
    | refine x_op rfl (s_store (i := 5) (by assumption) rfl rfl rfl rfl rfl rfl ?_)
    | refine x_op rfl (s_box rfl rfl fun b hb => ?_) | refine x_op rfl (s_alloc (by assumption) rfl fun b hb => ?_))
      exact x_there (A4, cap4) ⟨rfl, rfl, trivial⟩ (fun _ h => h) hk4
  rintro ⟨A5, cap5⟩ hk5
  simp only [] at hk5 ⊢
  have hl256 : (encHdr N ++ encCells N.cs).length ≤ 256 := by omega
  generalize hfull : encHdr N ++ encCells N.cs = l at hk5 hl256
  have hebs : encBytes N = l ++ List.replicate (256 - l.length) 0 := by rw [encBytes, hfull]
  refine x_seq ?_
  repeat (first
    | refine x_region ?_ | refine x_nil ?_ | refine x_tend ?_
    | refine x_off rfl rfl ?_ | refine x_off0 rfl ?_
    | refine x_op rfl (x_val (r_move rfl) rfl ?_)
    | refine x_op rfl (x_val (r_assign rfl) rfl ?_)
    | refine x_op rfl (x_val (r_extract rfl rfl) rfl ?_)
    | refine x_op rfl (x_val (r_pick_t rfl rfl) rfl ?_)
    | refine x_op rfl (x_val (r_pick_f rfl rfl) rfl ?_)
    | refine x_op rfl (x_val (r_fieldAddr (by assumption) rfl) rfl ?_)
    | refine x_op rfl (x_val (by first | exact r_own_add (i := 0) (by assumption) rfl rfl rfl | exact r_own_add (i := 1) (by assumption) rfl rfl rfl | exact r_own_add (i := 2) (by assumption) rfl rfl rfl | exact r_own_add (i := 3) (by assumption) rfl rfl rfl | exact r_own_add (i := 4) (by assumption) rfl rfl rfl | exact r_own_add (i := 5) (by assumption) rfl rfl rfl | exact r_own (i := 0) (by assumption) rfl rfl rfl | exact r_own (i := 1) (by assumption) rfl rfl rfl | exact r_own (i := 2) (by assumption) rfl rfl rfl | exact r_own (i := 3) (by assumption) rfl rfl rfl | exact r_own (i := 4) (by assumption) rfl rfl rfl | exact r_own (i := 5) (by assumption) rfl rfl rfl) rfl ?_)
    | refine x_op rfl (x_val (r_len_string (by assumption) rfl) rfl ?_)
    | refine x_op rfl (x_val (r_len_slice (by assumption) rfl) rfl ?_)
    | refine x_op rfl (x_val (r_cap_slice (by assumption) rfl) rfl ?_)
    | refine x_op rfl (x_val (r_not rfl rfl) rfl ?_)
    | refine x_op rfl (x_val (r_add rfl rfl ⟨by omega, by omega⟩) rfl ?_)
    | refine x_op rfl (x_val (r_sub rfl rfl ⟨by omega, by omega⟩) rfl ?_)
    | refine x_op rfl (x_val (r_build (by assumption) (by assumption) rfl rfl) rfl ?_)
    | refine x_op rfl (x_val (r_nilCheck rfl) rfl ?_)
    | refine x_op rfl (x_val (r_lss (r := true) rfl rfl (decide_eq_true (by omega))) rfl ?_)
    | refine x_op rfl (x_val (r_lss (r := false) rfl rfl (decide_eq_false (by omega))) rfl ?_)
    | refine x_op rfl (x_val (r_leq (r := true) rfl rfl (decide_eq_true (by omega))) rfl ?_)
    | refine x_op rfl (x_val (r_leq (r := false) rfl rfl (decide_eq_false (by omega))) rfl ?_)
    | refine x_op rfl (x_val (r_gtr (r := true) rfl rfl (decide_eq_true (by omega))) rfl ?_)
    | refine x_op rfl (x_val (r_gtr (r := false) rfl rfl (decide_eq_false (by omega))) rfl ?_)
    | refine x_op rfl (x_val (r_geq (r := true) rfl rfl (decide_eq_true (by omega))) rfl ?_)
    | refine x_op rfl (x_val (r_geq (r := false) rfl rfl (decide_eq_false (by omega))) rfl ?_)
    | refine x_op rfl (x_val (r_eql (r := true) rfl rfl (decide_eq_true (by omega))) rfl ?_)
    | refine x_op rfl (x_val (r_eql (r := false) rfl rfl (decide_eq_false (by omega))) rfl ?_)
    | refine x_op rfl (x_val (r_neq (r := true) rfl rfl (decide_eq_true (by omega))) rfl ?_)
    | refine x_op rfl (x_val (r_neq (r := false) rfl rfl (decide_eq_false (by omega))) rfl ?_)
    | refine x_op rfl (x_val (by first | exact r_ownN (i := 0) (by assumption) rfl rfl rfl | exact r_ownN (i := 1) (by assumption) rfl rfl rfl | exact r_ownN (i := 2) (by assumption) rfl rfl rfl | exact r_ownN (i := 3) (by assumption) rfl rfl rfl | exact r_ownN (i := 4) (by assumption) rfl rfl rfl | exact r_ownN (i := 5) (by assumption) rfl rfl rfl) rfl ?_)
    | refine x_op rfl (s_store (i := 0) (by assumption) rfl rfl rfl rfl rfl rfl ?_)
    | refine x_op rfl (s_store (i := 1) (by assumption) rfl rfl rfl rfl rfl rfl ?_)
    | refine x_op rfl (s_store (i := 2) (by assumption) rfl rfl rfl rfl rfl rfl ?_)
    | refine x_op rfl (s_store (i := 3) (by assumption) rfl rfl rfl rfl rfl rfl ?_)
    | refine x_op rfl (s_store (i := 4) (by assumption) rfl rfl rfl rfl rfl rfl ?_)
    | refine x_op rfl (s_store (i := 5) (by assumption) rfl rfl rfl rfl rfl rfl ?_)
    | refine x_op rfl (s_box rfl rfl fun b hb => ?_) | refine x_op rfl (s_alloc (by assumption) rfl fun b hb => ?_))
  refine x_op rfl (s_call Ty.c22 rfl rfl (fun w hw => Len_ b4 A5 l.length cap5 w (hw.cell_ (i := 0) (t := 49) (cs := #[.pointer (me b4), .slice A5 l.length cap5]) rfl 1)) (fun wq v wq1 hw h => ?_))
  obtain ⟨rfl, hO⟩ := h
  refine ⟨_, hw.call0 hO, ?_⟩
  repeat (first
    | refine x_region ?_ | refine x_nil ?_ | refine x_tend ?_
    | refine x_off rfl rfl ?_ | refine x_off0 rfl ?_
    | refine x_op rfl (x_val (r_move rfl) rfl ?_)
    | refine x_op rfl (x_val (r_assign rfl) rfl ?_)
    | refine x_op rfl (x_val (r_extract rfl rfl) rfl ?_)
    | refine x_op rfl (x_val (r_pick_t rfl rfl) rfl ?_)
    | refine x_op rfl (x_val (r_pick_f rfl rfl) rfl ?_)
    | refine x_op rfl (x_val (r_fieldAddr (by assumption) rfl) rfl ?_)
    | refine x_op rfl (x_val (by first | exact r_own_add (i := 0) (by assumption) rfl rfl rfl | exact r_own_add (i := 1) (by assumption) rfl rfl rfl | exact r_own_add (i := 2) (by assumption) rfl rfl rfl | exact r_own_add (i := 3) (by assumption) rfl rfl rfl | exact r_own_add (i := 4) (by assumption) rfl rfl rfl | exact r_own_add (i := 5) (by assumption) rfl rfl rfl | exact r_own (i := 0) (by assumption) rfl rfl rfl | exact r_own (i := 1) (by assumption) rfl rfl rfl | exact r_own (i := 2) (by assumption) rfl rfl rfl | exact r_own (i := 3) (by assumption) rfl rfl rfl | exact r_own (i := 4) (by assumption) rfl rfl rfl | exact r_own (i := 5) (by assumption) rfl rfl rfl) rfl ?_)
    | refine x_op rfl (x_val (r_len_string (by assumption) rfl) rfl ?_)
    | refine x_op rfl (x_val (r_len_slice (by assumption) rfl) rfl ?_)
    | refine x_op rfl (x_val (r_cap_slice (by assumption) rfl) rfl ?_)
    | refine x_op rfl (x_val (r_not rfl rfl) rfl ?_)
    | refine x_op rfl (x_val (r_add rfl rfl ⟨by omega, by omega⟩) rfl ?_)
    | refine x_op rfl (x_val (r_sub rfl rfl ⟨by omega, by omega⟩) rfl ?_)
    | refine x_op rfl (x_val (r_build (by assumption) (by assumption) rfl rfl) rfl ?_)
    | refine x_op rfl (x_val (r_nilCheck rfl) rfl ?_)
    | refine x_op rfl (x_val (r_lss (r := true) rfl rfl (decide_eq_true (by omega))) rfl ?_)
    | refine x_op rfl (x_val (r_lss (r := false) rfl rfl (decide_eq_false (by omega))) rfl ?_)
    | refine x_op rfl (x_val (r_leq (r := true) rfl rfl (decide_eq_true (by omega))) rfl ?_)
    | refine x_op rfl (x_val (r_leq (r := false) rfl rfl (decide_eq_false (by omega))) rfl ?_)
    | refine x_op rfl (x_val (r_gtr (r := true) rfl rfl (decide_eq_true (by omega))) rfl ?_)
    | refine x_op rfl (x_val (r_gtr (r := false) rfl rfl (decide_eq_false (by omega))) rfl ?_)
    | refine x_op rfl (x_val (r_geq (r := true) rfl rfl (decide_eq_true (by omega))) rfl ?_)
    | refine x_op rfl (x_val (r_geq (r := false) rfl rfl (decide_eq_false (by omega))) rfl ?_)
    | refine x_op rfl (x_val (r_eql (r := true) rfl rfl (decide_eq_true (by omega))) rfl ?_)
    | refine x_op rfl (x_val (r_eql (r := false) rfl rfl (decide_eq_false (by omega))) rfl ?_)
    | refine x_op rfl (x_val (r_neq (r := true) rfl rfl (decide_eq_true (by omega))) rfl ?_)
    | refine x_op rfl (x_val (r_neq (r := false) rfl rfl (decide_eq_false (by omega))) rfl ?_)
    | refine x_op rfl (x_val (by first | exact r_ownN (i := 0) (by assumption) rfl rfl rfl | exact r_ownN (i := 1) (by assumption) rfl rfl rfl | exact r_ownN (i := 2) (by assumption) rfl rfl rfl | exact r_ownN (i := 3) (by assumption) rfl rfl rfl | exact r_ownN (i := 4) (by assumption) rfl rfl rfl | exact r_ownN (i := 5) (by assumption) rfl rfl rfl) rfl ?_)
    | refine x_op rfl (s_store (i := 0) (by assumption) rfl rfl rfl rfl rfl rfl ?_)
    | refine x_op rfl (s_store (i := 1) (by assumption) rfl rfl rfl rfl rfl rfl ?_)
    | refine x_op rfl (s_store (i := 2) (by assumption) rfl rfl rfl rfl rfl rfl ?_)
    | refine x_op rfl (s_store (i := 3) (by assumption) rfl rfl rfl rfl rfl rfl ?_)
    | refine x_op rfl (s_store (i := 4) (by assumption) rfl rfl rfl rfl rfl rfl ?_)
    | refine x_op rfl (s_store (i := 5) (by assumption) rfl rfl rfl rfl rfl rfl ?_)
    | refine x_op rfl (s_box rfl rfl fun b hb => ?_) | refine x_op rfl (s_alloc (by assumption) rfl fun b hb => ?_))
  refine x_op rfl (s_makeBytes (256 - l.length) u34 i5 rfl rfl rfl (by omega) (by omega) fun bz hbz => ?_)
  generalize hz : List.replicate (256 - l.length) (0 : UInt8) = z at hebs
  have hzl : 256 - l.length = z.length := by rw [← hz]; simp
  rw [hzl]
  refine x_op rfl (s_call Ty.c21 rfl rfl (fun w hw => WW_ b4 (me b4) A5 cap5 l (some ⟨bz, 0, none⟩) z.length z w (.inr rfl) hk5 (hw.sub_ (L := bl bz 5 (u8s z).toArray :: (BL b4 (me b4) A5 cap5 l ++ [bl b1 26 #[.bool N.br, .int .i64 N.first, .slice A N.cs.length c]])) [1, 2] (by decide))
    (hw.rd_bl (i := 0) (bt := 5) (cs := (u8s z).toArray) rfl (by rw [u8s_length, Nat.mul_one]) (by simp only [maxLen]; omega) (by rw [Nat.mul_one, ← u8s_length z]; exact List.take_length)) (fun a ha => by injection ha with ha; rw [← ha]; exact head_not (L := BL b4 (me b4) A5 cap5 l ++ [bl b1 26 #[.bool N.br, .int .i64 N.first, .slice A N.cs.length c]]) (b := bz) hw rfl [0, 1]) (by omega)) (fun wq v wq1 hw h => ?_))
  obtain ⟨rfl, A6, cap6, hk6, hO⟩ := h
  refine ⟨_, hw.swap_ (L := bl bz 5 (u8s z).toArray :: (BL b4 (me b4) A5 cap5 l ++ [bl b1 26 #[.bool N.br, .int .i64 N.first, .slice A N.cs.length c]])) [1, 2] [3] (by decide) hO, ?_⟩
  repeat (first
    | refine x_seq ?_ | refine x_region ?_ | refine x_nil ?_ | refine x_block ?_ | refine x_skip ?_ | refine x_exit rfl ?_ | refine x_true rfl ?_ | refine x_false rfl ?_ | refine x_ret ?_ | refine x_tend ?_
    | refine x_off rfl rfl ?_ | refine x_off0 rfl ?_
    | refine x_op rfl (x_val (r_move rfl) rfl ?_)
    | refine x_op rfl (x_val (r_assign rfl) rfl ?_)
    | refine x_op rfl (x_val (r_extract rfl rfl) rfl ?_)
    | refine x_op rfl (x_val (r_pick_t rfl rfl) rfl ?_)
    | refine x_op rfl (x_val (r_pick_f rfl rfl) rfl ?_)
    | refine x_op rfl (x_val (r_fieldAddr (by assumption) rfl) rfl ?_)
    | refine x_op rfl (x_val (by first | exact r_own_add (i := 0) (by assumption) rfl rfl rfl | exact r_own_add (i := 1) (by assumption) rfl rfl rfl | exact r_own_add (i := 2) (by assumption) rfl rfl rfl | exact r_own_add (i := 3) (by assumption) rfl rfl rfl | exact r_own_add (i := 4) (by assumption) rfl rfl rfl | exact r_own_add (i := 5) (by assumption) rfl rfl rfl | exact r_own (i := 0) (by assumption) rfl rfl rfl | exact r_own (i := 1) (by assumption) rfl rfl rfl | exact r_own (i := 2) (by assumption) rfl rfl rfl | exact r_own (i := 3) (by assumption) rfl rfl rfl | exact r_own (i := 4) (by assumption) rfl rfl rfl | exact r_own (i := 5) (by assumption) rfl rfl rfl) rfl ?_)
    | refine x_op rfl (x_val (r_len_string (by assumption) rfl) rfl ?_)
    | refine x_op rfl (x_val (r_len_slice (by assumption) rfl) rfl ?_)
    | refine x_op rfl (x_val (r_cap_slice (by assumption) rfl) rfl ?_)
    | refine x_op rfl (x_val (r_not rfl rfl) rfl ?_)
    | refine x_op rfl (x_val (r_add rfl rfl ⟨by omega, by omega⟩) rfl ?_)
    | refine x_op rfl (x_val (r_sub rfl rfl ⟨by omega, by omega⟩) rfl ?_)
    | refine x_op rfl (x_val (r_build (by assumption) (by assumption) rfl rfl) rfl ?_)
    | refine x_op rfl (x_val (r_nilCheck rfl) rfl ?_)
    | refine x_op rfl (x_val (r_lss (r := true) rfl rfl (decide_eq_true (by omega))) rfl ?_)
    | refine x_op rfl (x_val (r_lss (r := false) rfl rfl (decide_eq_false (by omega))) rfl ?_)
    | refine x_op rfl (x_val (r_leq (r := true) rfl rfl (decide_eq_true (by omega))) rfl ?_)
    | refine x_op rfl (x_val (r_leq (r := false) rfl rfl (decide_eq_false (by omega))) rfl ?_)
    | refine x_op rfl (x_val (r_gtr (r := true) rfl rfl (decide_eq_true (by omega))) rfl ?_)
    | refine x_op rfl (x_val (r_gtr (r := false) rfl rfl (decide_eq_false (by omega))) rfl ?_)
    | refine x_op rfl (x_val (r_geq (r := true) rfl rfl (decide_eq_true (by omega))) rfl ?_)
    | refine x_op rfl (x_val (r_geq (r := false) rfl rfl (decide_eq_false (by omega))) rfl ?_)
    | refine x_op rfl (x_val (r_eql (r := true) rfl rfl (decide_eq_true (by omega))) rfl ?_)
    | refine x_op rfl (x_val (r_eql (r := false) rfl rfl (decide_eq_false (by omega))) rfl ?_)
    | refine x_op rfl (x_val (r_neq (r := true) rfl rfl (decide_eq_true (by omega))) rfl ?_)
    | refine x_op rfl (x_val (r_neq (r := false) rfl rfl (decide_eq_false (by omega))) rfl ?_)
    | refine x_op rfl (x_val (by first | exact r_ownN (i := 0) (by assumption) rfl rfl rfl | exact r_ownN (i := 1) (by assumption) rfl rfl rfl | exact r_ownN (i := 2) (by assumption) rfl rfl rfl | exact r_ownN (i := 3) (by assumption) rfl rfl rfl | exact r_ownN (i := 4) (by assumption) rfl rfl rfl | exact r_ownN (i := 5) (by assumption) rfl rfl rfl) rfl ?_)
    | refine x_op rfl (s_store (i := 0) (by assumption) rfl rfl rfl rfl rfl rfl ?_)
    | refine x_op rfl (s_store (i := 1) (by assumption) rfl rfl rfl rfl rfl rfl ?_)
    | refine x_op rfl (s_store (i := 2) (by assumption) rfl rfl rfl rfl rfl rfl ?_)
    | refine x_op rfl (s_store (i := 3) (by assumption) rfl rfl rfl rfl rfl rfl ?_)
    | refine x_op rfl (s_store (i := 4) (by assumption) rfl rfl rfl rfl rfl rfl ?_)
    | refine x_op rfl (s_store (i := 5) (by assumption) rfl rfl rfl rfl rfl rfl ?_)
    | refine x_op rfl (s_box rfl rfl fun b hb => ?_) | refine x_op rfl (s_alloc (by assumption) rfl fun b hb => ?_))
  have hne : l ++ z ≠ [] := by rw [← hfull]; simp [encHdr]
  have hg : ∃ g, A6 = me g := by
    have h1 := hk6.2.2.2.1
    have h2 : (l ++ z).length ≠ 0 := by simpa using hne
    cases A6 with
    | none => exact absurd (h1 rfl).1 h2
    | some a => obtain ⟨g, rfl⟩ := hk6.2.2.2.2 a rfl; exact ⟨g, rfl⟩
  obtain ⟨g, rfl⟩ := hg
  refine x_op rfl (s_call Ty.c23 rfl rfl (fun w hw => String_ b4 g (me b4) cap6 (l ++ z) w hne hk6 (hw.sub_ (L := BL b4 (me b4) (me g) cap6 (l ++ z) ++ [bl b1 26 #[.bool N.br, .int .i64 N.first, .slice A N.cs.length c]]) [0, 1] (by decide))) (fun wq v wq1 hw h => ?_))
  obtain ⟨rfl, hO⟩ := h
  refine ⟨_, hw.swap_ (L := BL b4 (me b4) (me g) cap6 (l ++ z) ++ [bl b1 26 #[.bool N.br, .int .i64 N.first, .slice A N.cs.length c]]) [0, 1] [] (by decide) hO, ?_⟩
  repeat (first
    | refine x_seq ?_ | refine x_region ?_ | refine x_nil ?_ | refine x_block ?_ | refine x_skip ?_ | refine x_exit rfl ?_ | refine x_true rfl ?_ | refine x_false rfl ?_ | refine x_ret ?_ | refine x_tend ?_
    | refine x_off rfl rfl ?_ | refine x_off0 rfl ?_
    | refine x_op rfl (x_val (r_move rfl) rfl ?_)
    | refine x_op rfl (x_val (r_assign rfl) rfl ?_)
    | refine x_op rfl (x_val (r_extract rfl rfl) rfl ?_)
    | refine x_op rfl (x_val (r_pick_t rfl rfl) rfl ?_)
    | refine x_op rfl (x_val (r_pick_f rfl rfl) rfl ?_)
    | refine x_op rfl (x_val (r_fieldAddr (by assumption) rfl) rfl ?_)
    | refine x_op rfl (x_val (by first | exact r_own_add (i := 0) (by assumption) rfl rfl rfl | exact r_own_add (i := 1) (by assumption) rfl rfl rfl | exact r_own_add (i := 2) (by assumption) rfl rfl rfl | exact r_own_add (i := 3) (by assumption) rfl rfl rfl | exact r_own_add (i := 4) (by assumption) rfl rfl rfl | exact r_own_add (i := 5) (by assumption) rfl rfl rfl | exact r_own (i := 0) (by assumption) rfl rfl rfl | exact r_own (i := 1) (by assumption) rfl rfl rfl | exact r_own (i := 2) (by assumption) rfl rfl rfl | exact r_own (i := 3) (by assumption) rfl rfl rfl | exact r_own (i := 4) (by assumption) rfl rfl rfl | exact r_own (i := 5) (by assumption) rfl rfl rfl) rfl ?_)
    | refine x_op rfl (x_val (r_len_string (by assumption) rfl) rfl ?_)
    | refine x_op rfl (x_val (r_len_slice (by assumption) rfl) rfl ?_)
    | refine x_op rfl (x_val (r_cap_slice (by assumption) rfl) rfl ?_)
    | refine x_op rfl (x_val (r_not rfl rfl) rfl ?_)
    | refine x_op rfl (x_val (r_add rfl rfl ⟨by omega, by omega⟩) rfl ?_)
    | refine x_op rfl (x_val (r_sub rfl rfl ⟨by omega, by omega⟩) rfl ?_)
    | refine x_op rfl (x_val (r_build (by assumption) (by assumption) rfl rfl) rfl ?_)
    | refine x_op rfl (x_val (r_nilCheck rfl) rfl ?_)
    | refine x_op rfl (x_val (r_lss (r := true) rfl rfl (decide_eq_true (by omega))) rfl ?_)
    | refine x_op rfl (x_val (r_lss (r := false) rfl rfl (decide_eq_false (by omega))) rfl ?_)
    | refine x_op rfl (x_val (r_leq (r := true) rfl rfl (decide_eq_true (by omega))) rfl ?_)
    | refine x_op rfl (x_val (r_leq (r := false) rfl rfl (decide_eq_false (by omega))) rfl ?_)
    | refine x_op rfl (x_val (r_gtr (r := true) rfl rfl (decide_eq_true (by omega))) rfl ?_)
    | refine x_op rfl (x_val (r_gtr (r := false) rfl rfl (decide_eq_false (by omega))) rfl ?_)
    | refine x_op rfl (x_val (r_geq (r := true) rfl rfl (decide_eq_true (by omega))) rfl ?_)
    | refine x_op rfl (x_val (r_geq (r := false) rfl rfl (decide_eq_false (by omega))) rfl ?_)
    | refine x_op rfl (x_val (r_eql (r := true) rfl rfl (decide_eq_true (by omega))) rfl ?_)
    | refine x_op rfl (x_val (r_eql (r := false) rfl rfl (decide_eq_false (by omega))) rfl ?_)
    | refine x_op rfl (x_val (r_neq (r := true) rfl rfl (decide_eq_true (by omega))) rfl ?_)
    | refine x_op rfl (x_val (r_neq (r := false) rfl rfl (decide_eq_false (by omega))) rfl ?_)
    | refine x_op rfl (x_val (by first | exact r_ownN (i := 0) (by assumption) rfl rfl rfl | exact r_ownN (i := 1) (by assumption) rfl rfl rfl | exact r_ownN (i := 2) (by assumption) rfl rfl rfl | exact r_ownN (i := 3) (by assumption) rfl rfl rfl | exact r_ownN (i := 4) (by assumption) rfl rfl rfl | exact r_ownN (i := 5) (by assumption) rfl rfl rfl) rfl ?_)
    | refine x_op rfl (s_store (i := 0) (by assumption) rfl rfl rfl rfl rfl rfl ?_)
    | refine x_op rfl (s_store (i := 1) (by assumption) rfl rfl rfl rfl rfl rfl ?_)
    | refine x_op rfl (s_store (i := 2) (by assumption) rfl rfl rfl rfl rfl rfl ?_)
    | refine x_op rfl (s_store (i := 3) (by assumption) rfl rfl rfl rfl rfl rfl ?_)
    | refine x_op rfl (s_store (i := 4) (by assumption) rfl rfl rfl rfl rfl rfl ?_)
    | refine x_op rfl (s_store (i := 5) (by assumption) rfl rfl rfl rfl rfl rfl ?_)
    | refine x_op rfl (s_box rfl rfl fun b hb => ?_) | refine x_op rfl (s_alloc (by assumption) rfl fun b hb => ?_))
  exact x_rets (rs := []) (vs := []) rfl ⟨rfl, rfl, trivial⟩ fun w1 hO => ⟨_, rfl, by rw [hebs], hO.none_⟩
end Go.Proofs.Ytlpoepmipbegaaa.Lf
