/- Is it a tag? Is it a track? -/
import Derived.Test.YtlpoepmipbegaaaDoorV5
import Derived.Test.YtlpoepmipbegaaaDoorSh
set_option linter.unusedVariables false
set_option linter.unusedSimpArgs false
namespace Go.Proofs.YtlpoepmipbegaaaDoor.Wv
open Go Go.RowKit Go.Proofs.YtlpoepmipbegaaaDoor.En
theorem own_of_below {w w' : World} (h : Below w.heap.size w w') : Own w [] [] w' :=
  ⟨h.os, h.tape, h.output, h.size, fun b hb _ => h.block b hb, fun x hx => (nomatch hx), fun x hx => (nomatch hx), List.nodup_nil⟩
/-- What the library's own variable holds. -/
def Glob (w : World) : Prop := ∃ m, w.cell? ⟨0, 0, none⟩ = some (.int .i64 m)
theorem _root_.Go.Proofs.YtlpoepmipbegaaaDoor.En.Own.glob {w0 w : World} {L : List Asn} (h : Own w0 [] L w) (hg : Glob w0) : Glob w := by
  obtain ⟨m, hm⟩ := hg
  exact ⟨m, h.old_ hm (by simp)⟩
def eqS : ByteArray := ⟨#[61]⟩
def azS : ByteArray := ⟨#[97, 98, 99, 100, 101, 102, 103, 104, 105, 106, 107, 108, 109, 110, 111, 112, 113, 114, 115, 116, 117, 118, 119, 120, 121, 122]⟩
theorem Cut_ (s : ByteArray) (w : World) (hs : s.size < 4294967281) (hg : Glob w) :
    Calls Tryd.prog 37 #[.string s, .string ⟨#[61]⟩] w fun en w1 => ∃ r, en = .returned r ∧ (r = .tuple #[.string ⟨(Lib.cut s.data.toList eqS.data.toList).1.toArray⟩, .string ⟨(Lib.cut s.data.toList eqS.data.toList).2.1.toArray⟩, .bool (Lib.cut s.data.toList eqS.data.toList).2.2] ∧ Own w [] [] w1) := by
  obtain ⟨m, hm⟩ := hg
  refine (Tryd.strings_Cut s eqS m w hs hm).mono ?_
  rintro en w1 ⟨rfl, n, rfl⟩
  exact ⟨_, rfl, rfl, own_of_below (below_drewNg w n)⟩
theorem Trim_ (s : ByteArray) (w : World) (hs : s.size ≤ 9223372036854775807) :
    Calls Tryd.prog 39 #[.string s, .string ⟨#[97, 98, 99, 100, 101, 102, 103, 104, 105, 106, 107, 108, 109, 110, 111, 112, 113, 114, 115, 116, 117, 118, 119, 120, 121, 122]⟩] w fun en w1 => ∃ r, en = .returned r ∧ (r = .string ⟨(Lib.trimS s.data.toList azS.data.toList).toArray⟩ ∧ Own w [] [] w1) := by
  refine (Any.strings_Trim_laid Tryd.lays160 (by kernel_rfl) s azS w hs (by decide) (ascii_of_all (by decide))).mono ?_
  rintro en w1 ⟨rfl, hb⟩
  exact ⟨_, rfl, rfl, own_of_below hb⟩
def oddP (x : Nat) : Bool := decide ((x : Int) < 33) || decide ((x : Int) > 126)
theorem odd_ (x : Int) (w : World) :
    Calls Tryd.prog 38 #[.int .i32 x] w fun en w1 => ∃ r, en = .returned r ∧ (r = .bool (decide (x < 33) || decide (x > 126)) ∧ Own w [] [] w1) := by
  refine fn_enter (args := [_]) (F := []) Tryd.func38 rfl rfl rfl ?_
  refine x_seq ?_
  refine x_region ?_
  refine x_op rfl (x_val (r_assign rfl) rfl ?_)
  refine x_nil ?_
  refine x_seq ?_
  refine x_region ?_
  refine x_op rfl (x_val (r_move rfl) rfl ?_)
  refine x_op rfl (x_val (r_lss rfl rfl rfl) rfl (x_dec (fun h4 => ?_) (fun h4 => ?_)))
  · refine x_op rfl (x_val (r_move rfl) rfl ?_)
    refine x_off rfl rfl ?_
    refine x_off rfl rfl ?_
    refine x_op rfl (x_val (r_pick_t rfl rfl) rfl ?_)
    refine x_op rfl (x_val (r_assign rfl) rfl ?_)
    refine x_nil ?_
    refine x_ret ?_
    -- path T
    exact x_ret1 rfl rfl fun w1 hO => ⟨_, rfl, by simp [h4], hO.none_⟩
  · refine x_op rfl (x_val (r_move rfl) rfl ?_)
    refine x_op rfl (x_val (r_move rfl) rfl ?_)
    refine x_op rfl (x_val (r_gtr rfl rfl rfl) rfl ?_)
    refine x_op rfl (x_val (r_pick_f rfl rfl) rfl ?_)
    refine x_op rfl (x_val (r_assign rfl) rfl ?_)
    refine x_nil ?_
    refine x_ret ?_
    -- path F
    exact x_ret1 rfl rfl fun w1 hO => ⟨_, rfl, by simp [h4], hO.none_⟩
theorem IndexFunc_ (s : ByteArray) (w : World) :
    Calls Tryd.prog 40 #[.string s, .func (.func 38) #[] #[]] w fun en w1 => ∃ r, en = .returned r ∧ (r = .int .i64 (Lib.idxFunc oddP true s) ∧ Own w [] [] w1) := by
  refine (Tryd.strings_IndexFunc_grows 38 #[] (fun args w => by kernel_rfl) oddP s w (fun W x hx hb => ?_)).mono ?_
  · refine (odd_ x W).mono ?_
    rintro en w1 ⟨r, rfl, rfl, hO⟩
    exact ⟨rfl, hO.below⟩
  · rintro en w1 ⟨rfl, hb⟩
    exact ⟨_, rfl, rfl, own_of_below hb⟩
def cutF (s : ByteArray) : ByteArray × ByteArray × Bool := (⟨(Lib.cut s.data.toList eqS.data.toList).1.toArray⟩, ⟨(Lib.cut s.data.toList eqS.data.toList).2.1.toArray⟩, (Lib.cut s.data.toList eqS.data.toList).2.2)
def trimF (s : ByteArray) : ByteArray := ⟨(Lib.trimS s.data.toList azS.data.toList).toArray⟩
def isTagF (s : ByteArray) : Bool := (cutF s).2.2 && (!((cutF s).1.toList == (⟨#[]⟩ : ByteArray).toList) && (!((cutF s).2.1.toList == (⟨#[]⟩ : ByteArray).toList) && (decide ((s.size : Int) ≤ 12) && (((trimF (cutF s).1).toList == (⟨#[]⟩ : ByteArray).toList) && decide (Lib.idxFunc oddP true (cutF s).2.1 < 0)))))
theorem isTagF_small {s : ByteArray} (h : isTagF s = true) : s.size ≤ 12 := by
  simp only [isTagF, Bool.and_eq_true, decide_eq_true_eq] at h
  omega
theorem CutF_ (s : ByteArray) (w : World) (hs : s.size < 4294967281) (hg : Glob w) :
    Calls Tryd.prog 37 #[.string s, .string ⟨#[61]⟩] w fun en w1 => ∃ r, en = .returned r ∧ (r = .tuple #[.string (cutF s).1, .string (cutF s).2.1, .bool (cutF s).2.2] ∧ Own w [] [] w1) := Cut_ s w hs hg
theorem TrimF_ (s : ByteArray) (w : World) (hs : s.size ≤ 9223372036854775807) :
    Calls Tryd.prog 39 #[.string s, .string ⟨#[97, 98, 99, 100, 101, 102, 103, 104, 105, 106, 107, 108, 109, 110, 111, 112, 113, 114, 115, 116, 117, 118, 119, 120, 121, 122]⟩] w fun en w1 => ∃ r, en = .returned r ∧ (r = .string (trimF s) ∧ Own w [] [] w1) := Trim_ s w hs
theorem cut_le : ∀ (s : ByteArray), (cutF s).1.size ≤ s.size + 1 := by
  intro s
  show (Lib.cut s.data.toList eqS.data.toList).1.toArray.size ≤ s.size + 1
  have h0 : s.data.toList.length = s.size := Array.length_toList
  simp only [Lib.cut]
  split <;> simp <;> omega
set_option maxRecDepth 20000 in
theorem IsTag_ (s : ByteArray) (w : World) (hs : s.size < 4294967281) (hg : Glob w) :
    Calls Tryd.prog 27 #[.string s] w fun en w1 => ∃ r, en = .returned r ∧ (r = .bool (isTagF s) ∧ Own w [] [] w1) := by
  have hcl := cut_le s
  generalize hC : cutF s = C at hcl
  have hI : isTagF s = (C.2.2 && (!(C.1.toList == (⟨#[]⟩ : ByteArray).toList) && (!(C.2.1.toList == (⟨#[]⟩ : ByteArray).toList) && (decide ((s.size : Int) ≤ 12) && (((trimF C.1).toList == (⟨#[]⟩ : ByteArray).toList) && decide (Lib.idxFunc oddP true C.2.1 < 0)))))) := by rw [isTagF, hC]
  have hcut := CutF_ s w hs hg
  rw [hC] at hcut
  obtain ⟨C1, C2, C3⟩ := C
  simp only [] at hI hcl hcut
  rw [hI]
  refine fn_enter (args := [_]) (F := []) Tryd.func27 rfl rfl rfl ?_
  refine x_seq ?_
  refine x_region ?_
  refine x_op rfl (x_val (r_assign rfl) rfl ?_)
  refine x_nil ?_
  refine x_seq ?_
  refine x_region ?_
  refine x_op rfl (x_val (r_move rfl) rfl ?_)
  refine x_op rfl (s_call Ty.c37 rfl rfl (fun w hw => (by have h9 := CutF_ s w hs (hw.glob hg); rw [hC] at h9; exact h9)) (fun wq v wq1 hw h => ?_))
  obtain ⟨rfl, hO⟩ := h
  refine ⟨_, hw.call0 hO, ?_⟩
  refine x_nf (L' := []) rfl ?_
  refine x_op rfl (x_val (r_move rfl) rfl ?_)
  refine x_op rfl (x_val (r_extract rfl rfl) rfl ?_)
  refine x_op rfl (x_val (r_extract rfl rfl) rfl ?_)
  refine x_op rfl (x_val (r_extract rfl rfl) rfl (x_bool (fun h12 => ?_) (fun h12 => ?_)))
  · refine x_op rfl (x_val (r_assign rfl) rfl ?_)
    refine x_op rfl (x_val (r_assign rfl) rfl ?_)
    refine x_op rfl (x_val (r_assign rfl) rfl ?_)
    refine x_nil ?_
    refine x_seq ?_
    refine x_region ?_
    refine x_op rfl (x_val (r_assign rfl) rfl ?_)
    refine x_nil ?_
    refine x_seq ?_
    refine x_region ?_
    refine x_op rfl (x_val (r_move rfl) rfl ?_)
    refine x_op rfl (x_val (r_move rfl) rfl ?_)
    refine x_op rfl (x_val (r_move rfl) rfl ?_)
    refine x_op rfl (x_val (r_neq_string rfl rfl rfl) rfl (x_bool (fun h16 => ?_) (fun h16 => ?_)))
    · refine x_op rfl (x_val (r_pick_t rfl rfl) rfl ?_)
      refine x_op rfl (x_val (r_move rfl) rfl ?_)
      refine x_op rfl (x_val (r_move rfl) rfl ?_)
      refine x_op rfl (x_val (r_neq_string rfl rfl rfl) rfl (x_bool (fun h20 => ?_) (fun h20 => ?_)))
      · refine x_op rfl (x_val (r_pick_t rfl rfl) rfl ?_)
        refine x_op rfl (x_val (r_move rfl) rfl ?_)
        refine x_op rfl (x_val (r_move rfl) rfl ?_)
        refine x_op rfl (x_val (r_len_string Tryd.underlying9 rfl) rfl ?_)
        refine x_op rfl (x_val (r_leq rfl rfl rfl) rfl (x_dec (fun h25 => ?_) (fun h25 => ?_)))
        · refine x_op rfl (x_val (r_pick_t rfl rfl) rfl ?_)
          refine x_op rfl (x_val (r_move rfl) rfl ?_)
          refine x_op rfl (x_val (r_move rfl) rfl ?_)
          refine x_op rfl (s_call Ty.c39 rfl rfl (fun w hw => TrimF_ C1 w (by omega)) (fun wq v wq1 hw h => ?_))
          obtain ⟨rfl, hO⟩ := h
          refine ⟨_, hw.call0 hO, ?_⟩
          refine x_nf (L' := []) rfl ?_
          refine x_op rfl (x_val (r_eql_string rfl rfl rfl) rfl (x_bool (fun h30 => ?_) (fun h30 => ?_)))
          · refine x_op rfl (x_val (r_pick_t rfl rfl) rfl ?_)
            refine x_op rfl (x_val (r_move rfl) rfl ?_)
            refine x_op rfl (x_val (r_move rfl) rfl ?_)
            refine x_op rfl (x_val (r_move rfl) rfl ?_)
            refine x_op rfl (s_call Ty.c40 rfl rfl (fun w hw => IndexFunc_ C2 w) (fun wq v wq1 hw h => ?_))
            obtain ⟨rfl, hO⟩ := h
            refine ⟨_, hw.call0 hO, ?_⟩
            refine x_nf (L' := []) rfl ?_
            refine x_op rfl (x_val (r_lss rfl rfl rfl) rfl ?_)
            refine x_op rfl (x_val (r_pick_t rfl rfl) rfl ?_)
            refine x_op rfl (x_val (r_assign rfl) rfl ?_)
            refine x_nil ?_
            refine x_ret ?_
            -- path TTTTT
            exact x_ret1 rfl rfl fun w1 hO => ⟨_, rfl, by rw [show C3 = true from h12, h16, h20, decide_eq_true h25, h30]; rfl, hO.none_⟩
          · refine x_op rfl (x_val (r_pick_t rfl rfl) rfl ?_)
            refine x_op rfl (x_val (r_move rfl) rfl ?_)
            refine x_off rfl rfl ?_
            refine x_off rfl rfl ?_
            refine x_off rfl rfl ?_
            refine x_off rfl rfl ?_
            refine x_op rfl (x_val (r_pick_f rfl rfl) rfl ?_)
            refine x_op rfl (x_val (r_assign rfl) rfl ?_)
            refine x_nil ?_
            refine x_ret ?_
            -- path TTTTF
            exact x_ret1 rfl rfl fun w1 hO => ⟨_, rfl, by rw [show C3 = true from h12, h16, h20, decide_eq_true h25, h30]; rfl, hO.none_⟩
        · refine x_op rfl (x_val (r_pick_t rfl rfl) rfl ?_)
          refine x_op rfl (x_val (r_move rfl) rfl ?_)
          refine x_off rfl rfl ?_
          refine x_off rfl rfl ?_
          refine x_off rfl rfl ?_
          refine x_op rfl (x_val (r_pick_f rfl rfl) rfl ?_)
          refine x_op rfl (x_val (r_move rfl) rfl ?_)
          refine x_off rfl rfl ?_
          refine x_off rfl rfl ?_
          refine x_off rfl rfl ?_
          refine x_off rfl rfl ?_
          refine x_op rfl (x_val (r_pick_f rfl rfl) rfl ?_)
          refine x_op rfl (x_val (r_assign rfl) rfl ?_)
          refine x_nil ?_
          refine x_ret ?_
          -- path TTTF
          exact x_ret1 rfl rfl fun w1 hO => ⟨_, rfl, by rw [show C3 = true from h12, h16, h20, decide_eq_false h25]; rfl, hO.none_⟩
      · refine x_op rfl (x_val (r_pick_t rfl rfl) rfl ?_)
        refine x_op rfl (x_val (r_move rfl) rfl ?_)
        refine x_off rfl rfl ?_
        refine x_off rfl rfl ?_
        refine x_off rfl rfl ?_
        refine x_op rfl (x_val (r_pick_f rfl rfl) rfl ?_)
        refine x_op rfl (x_val (r_move rfl) rfl ?_)
        refine x_off rfl rfl ?_
        refine x_off rfl rfl ?_
        refine x_off rfl rfl ?_
        refine x_op rfl (x_val (r_pick_f rfl rfl) rfl ?_)
        refine x_op rfl (x_val (r_move rfl) rfl ?_)
        refine x_off rfl rfl ?_
        refine x_off rfl rfl ?_
        refine x_off rfl rfl ?_
        refine x_off rfl rfl ?_
        refine x_op rfl (x_val (r_pick_f rfl rfl) rfl ?_)
        refine x_op rfl (x_val (r_assign rfl) rfl ?_)
        refine x_nil ?_
        refine x_ret ?_
        -- path TTF
        exact x_ret1 rfl rfl fun w1 hO => ⟨_, rfl, by rw [show C3 = true from h12, h16, h20]; rfl, hO.none_⟩
    · refine x_op rfl (x_val (r_pick_t rfl rfl) rfl ?_)
      refine x_op rfl (x_val (r_move rfl) rfl ?_)
      refine x_off rfl rfl ?_
      refine x_off rfl rfl ?_
      refine x_op rfl (x_val (r_pick_f rfl rfl) rfl ?_)
      refine x_op rfl (x_val (r_move rfl) rfl ?_)
      refine x_off rfl rfl ?_
      refine x_off rfl rfl ?_
      refine x_off rfl rfl ?_
      refine x_op rfl (x_val (r_pick_f rfl rfl) rfl ?_)
      refine x_op rfl (x_val (r_move rfl) rfl ?_)
      refine x_off rfl rfl ?_
      refine x_off rfl rfl ?_
      refine x_off rfl rfl ?_
      refine x_op rfl (x_val (r_pick_f rfl rfl) rfl ?_)
      refine x_op rfl (x_val (r_move rfl) rfl ?_)
      refine x_off rfl rfl ?_
      refine x_off rfl rfl ?_
      refine x_off rfl rfl ?_
      refine x_off rfl rfl ?_
      refine x_op rfl (x_val (r_pick_f rfl rfl) rfl ?_)
      refine x_op rfl (x_val (r_assign rfl) rfl ?_)
      refine x_nil ?_
      refine x_ret ?_
      -- path TF
      exact x_ret1 rfl rfl fun w1 hO => ⟨_, rfl, by rw [show C3 = true from h12, h16]; rfl, hO.none_⟩
  · refine x_op rfl (x_val (r_assign rfl) rfl ?_)
    refine x_op rfl (x_val (r_assign rfl) rfl ?_)
    refine x_op rfl (x_val (r_assign rfl) rfl ?_)
    refine x_nil ?_
    refine x_seq ?_
    refine x_region ?_
    refine x_op rfl (x_val (r_assign rfl) rfl ?_)
    refine x_nil ?_
    refine x_seq ?_
    refine x_region ?_
    refine x_op rfl (x_val (r_move rfl) rfl ?_)
    refine x_op rfl (x_val (r_move rfl) rfl ?_)
    refine x_off rfl rfl ?_
    refine x_off rfl rfl ?_
    refine x_op rfl (x_val (r_pick_f rfl rfl) rfl ?_)
    refine x_op rfl (x_val (r_move rfl) rfl ?_)
    refine x_off rfl rfl ?_
    refine x_off rfl rfl ?_
    refine x_op rfl (x_val (r_pick_f rfl rfl) rfl ?_)
    refine x_op rfl (x_val (r_move rfl) rfl ?_)
    refine x_off rfl rfl ?_
    refine x_off rfl rfl ?_
    refine x_off rfl rfl ?_
    refine x_op rfl (x_val (r_pick_f rfl rfl) rfl ?_)
    refine x_op rfl (x_val (r_move rfl) rfl ?_)
    refine x_off rfl rfl ?_
    refine x_off rfl rfl ?_
    refine x_off rfl rfl ?_
    refine x_op rfl (x_val (r_pick_f rfl rfl) rfl ?_)
    refine x_op rfl (x_val (r_move rfl) rfl ?_)
    refine x_off rfl rfl ?_
    refine x_off rfl rfl ?_
    refine x_off rfl rfl ?_
    refine x_off rfl rfl ?_
    refine x_op rfl (x_val (r_pick_f rfl rfl) rfl ?_)
    refine x_op rfl (x_val (r_assign rfl) rfl ?_)
    refine x_nil ?_
    refine x_ret ?_
    -- path F
    exact x_ret1 rfl rfl fun w1 hO => ⟨_, rfl, by rw [show C3 = false from h12]; rfl, hO.none_⟩
theorem notTag_ (s : ByteArray) (w : World) (hs : s.size < 4294967281) (hg : Glob w) :
    Calls Tryd.prog 26 #[.string s] w fun en w1 => ∃ r, en = .returned r ∧ (r = .bool (!(isTagF s)) ∧ Own w [] [] w1) := by
  refine fn_enter (args := [_]) (F := []) Tryd.func26 rfl rfl rfl ?_
  refine x_seq ?_
  refine x_region ?_
  refine x_op rfl (x_val (r_assign rfl) rfl ?_)
  refine x_nil ?_
  refine x_seq ?_
  refine x_region ?_
  refine x_op rfl (x_val (r_move rfl) rfl ?_)
  refine x_op rfl (s_call Ty.c27 rfl rfl (fun w hw => IsTag_ s w hs (hw.glob hg)) (fun wq v wq1 hw h => ?_))
  obtain ⟨rfl, hO⟩ := h
  refine ⟨_, hw.call0 hO, ?_⟩
  refine x_nf (L' := []) rfl ?_
  refine x_op rfl (x_val (r_not rfl rfl) rfl ?_)
  refine x_op rfl (x_val (r_assign rfl) rfl ?_)
  refine x_nil ?_
  refine x_ret ?_
  -- path 
  exact x_ret1 rfl rfl fun w1 hO => ⟨_, rfl, rfl, hO.none_⟩
def allTags (ts : List ByteArray) : Bool := ts.all isTagF
set_option maxRecDepth 20000 in
theorem idxTags_ (T : Option Addr) (c : Nat) (ts : List ByteArray) (w : World) (hT : Rd w T ts.length 1 (strs ts)) (hs : ∀ t ∈ ts, t.size < 4294967281) (hn : ts.length ≤ 1000000000) (hg : Glob w) :
    Calls Tryd.prog 36 #[.slice T ts.length c, .func (.func 26) #[] #[]] w fun en w1 => ∃ r, en = .returned r ∧ ∃ i : Int, r = .int .i64 i ∧ (allTags ts = !(decide (0 ≤ i))) ∧ Own w [] [] w1 := by
  refine fn_enter (args := [_, _]) (F := []) Tryd.func36 rfl rfl rfl ?_
  refine x_seq ?_
  refine x_region ?_
  refine x_op rfl (x_val (r_assign rfl) rfl ?_)
  refine x_nil ?_
  refine x_seq ?_
  refine x_seq ?_
  refine x_region ?_
  refine x_op rfl (x_val (r_move rfl) rfl ?_)
  refine x_op rfl (x_val (r_len_slice Tryd.underlying24 rfl) rfl ?_)
  refine x_op rfl (x_val (r_move rfl) rfl ?_)
  refine x_nil ?_
  refine x_block ?_
  refine x_loopP (σ := Nat) [0, 1, 7] [] (fun s => [(8, .int .i64 s)]) (fun s => []) (fun s => s ≤ ts.length ∧ (ts.take s).all isTagF = true) (fun s => ts.length - s) (0) (by repeat (first | exact trivial | refine ⟨rfl, ?_⟩)) (fun _ h => h.pick_ [] (by decide)) ⟨Nat.zero_le _, by simp⟩ ?_
  rintro s ⟨hi, hall⟩
  refine x_nfe (e' := [_, _, _, _]) (L' := []) rfl rfl ?_
  refine x_seq ?_
  refine x_region ?_
  refine x_op rfl (x_val (r_lss rfl rfl rfl) rfl (x_dec (fun h9 => ?_) (fun h9 => ?_)))
  · refine x_nil ?_
    refine x_seq ?_
    refine x_true rfl ?_
    refine x_skip ?_
    refine x_seq ?_
    refine x_block ?_
    refine x_seq ?_
    refine x_region ?_
    refine x_op rfl (x_val (r_move rfl) rfl ?_)
    refine x_op rfl (x_val (r_assign rfl) rfl ?_)
    refine x_nil ?_
    refine x_seq ?_
    refine x_region ?_
    refine x_op rfl (x_val (r_move rfl) rfl ?_)
    refine x_op rfl (x_val (r_move rfl) rfl ?_)
    refine x_op rfl (x_val (r_move rfl) rfl ?_)
    have hlt : s < ts.length := by omega
    have ht : ts[s]? = some (ts[s]'hlt) := List.getElem?_eq_getElem hlt
    generalize ts[s]'hlt = t at ht
    obtain ⟨ad, rfl⟩ := hT.some_ (by omega)
    refine x_op rfl (x_val (r_indexAddr Tryd.underlying24 Ty.i9 rfl rfl ⟨by omega, by omega⟩) rfl ?_)
    refine x_op rfl (x_val (r_load1 (v := .string t) Ty.z9 rfl (fun w hS => (hS.rd0 hT).cell_ (k := s) (j := 0) hlt (by omega) rfl (strs_get ht))) rfl ?_)
    refine x_op rfl (s_clos Ty.c26 rfl rfl rfl (fun w hw => notTag_ t w (hs t (List.mem_of_getElem? ht)) (hw.glob hg)) (fun wq v wq1 hw h => ?_))
    obtain ⟨rfl, hO⟩ := h
    refine ⟨_, hw.call0 hO, ?_⟩
    refine x_nf (L' := []) rfl ?_
    refine x_bool (fun h16 => ?_) (fun h16 => ?_)
    · refine x_nil ?_
      refine x_true rfl ?_
      refine x_seq ?_
      refine x_region ?_
      refine x_op rfl (x_val (r_move rfl) rfl ?_)
      refine x_op rfl (x_val (r_assign rfl) rfl ?_)
      refine x_nil ?_
      refine x_ret ?_
      -- path TT
      exact x_ret1 rfl rfl fun w1 hO => ⟨_, rfl, (s : Int), rfl, by
        have h1 : isTagF t = false := by simpa using h16
        have h2 : allTags ts = false := by
          rw [allTags, List.all_eq_false]
          exact ⟨t, List.mem_of_getElem? ht, by rw [h1]; decide⟩
        rw [h2]; simp, hO.none_⟩
    · refine x_nil ?_
      refine x_false rfl ?_
      refine x_skip ?_
      refine x_region ?_
      refine x_op rfl (x_val (r_add rfl rfl ⟨by omega, by omega⟩) rfl ?_)
      refine x_op rfl (x_val (r_move rfl) rfl ?_)
      refine x_nil ?_
      refine x_again (s + 1) (by repeat (first | exact trivial | refine ⟨rfl, ?_⟩)) (fun _ h => h.pick_ [] (by decide)) ⟨by omega, by rw [List.take_add_one, ht, List.all_append, hall]; simpa using h16⟩ (by omega)
  · refine x_nil ?_
    refine x_seq ?_
    refine x_false rfl ?_
    refine x_exit rfl ?_
    refine x_seq ?_
    refine x_region ?_
    refine x_op rfl (x_val (r_assign rfl) rfl ?_)
    refine x_nil ?_
    refine x_ret ?_
    -- path F
    exact x_ret1 rfl rfl fun w1 hO => ⟨_, rfl, -1, rfl, by
      have hsl : s = ts.length := by omega
      rw [hsl, List.take_length] at hall
      rw [allTags, hall]; rfl, hO.none_⟩
theorem hasBad_ (T : Option Addr) (c : Nat) (ts : List ByteArray) (w : World) (hT : Rd w T ts.length 1 (strs ts)) (hs : ∀ t ∈ ts, t.size < 4294967281) (hn : ts.length ≤ 1000000000) (hg : Glob w) :
    Calls Tryd.prog 25 #[.slice T ts.length c, .func (.func 26) #[] #[]] w fun en w1 => ∃ r, en = .returned r ∧ (r = .bool (!(allTags ts)) ∧ Own w [] [] w1) := by
  refine fn_enter (args := [_, _]) (F := []) Tryd.func25 rfl rfl rfl ?_
  refine x_seq ?_
  refine x_region ?_
  refine x_op rfl (x_val (r_assign rfl) rfl ?_)
  refine x_nil ?_
  refine x_seq ?_
  refine x_region ?_
  refine x_op rfl (x_val (r_move rfl) rfl ?_)
  refine x_op rfl (x_val (r_move rfl) rfl ?_)
  refine x_op rfl (s_call Ty.c36 rfl rfl (fun w hw => idxTags_ T c ts w (hw.rd0 hT) hs hn (hw.glob hg)) (fun wq v wq1 hw h => ?_))
  obtain ⟨i, rfl, hi, hO⟩ := h
  refine ⟨_, hw.call0 hO, ?_⟩
  refine x_nf (L' := []) rfl ?_
  refine x_op rfl (x_val (r_geq rfl rfl rfl) rfl ?_)
  refine x_op rfl (x_val (r_assign rfl) rfl ?_)
  refine x_nil ?_
  refine x_ret ?_
  -- path 
  exact x_ret1 rfl rfl fun w1 hO => ⟨_, rfl, by rw [hi]; simp, hO.none_⟩
end Go.Proofs.YtlpoepmipbegaaaDoor.Wv
