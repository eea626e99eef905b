/- The law QpathSteps: its row, proved, for arguments of bounded bulk. -/
import Derived.Test.YtajfhbpnjcdpeaaHeld
import Derived.Test.YtajfhbpnjcdpeaaRunE
import Derived.JoinedCond
set_option linter.unusedSimpArgs false
set_option linter.unusedVariables false
set_option maxRecDepth 100000
namespace Go.Proofs.Ytajfhbpnjcdpeaa
open Ago Go.ChangeShapes Go.WideShapes Go.ChangeAt Go.RowKit

theorem own : ownKnob Try.prog.godebug = none := by kernel_rfl
theorem laid : laidOutB Try.prog = true := by kernel_rfl
def tys : List Nat := [3, 4, 5, 9, 23, 25, 26, 27, 28, 30, 82]
theorem tysOk : okTys Try.prog tys = true := by kernel_rfl
theorem u3 : Try.prog.underlying 3 = some (.int .i64) := by kernel_rfl
theorem u4 : Try.prog.underlying 4 = some .bool := by kernel_rfl
theorem u5 : Try.prog.underlying 5 = some (.int .u8) := by kernel_rfl
theorem u9 : Try.prog.underlying 9 = some .string := by kernel_rfl
theorem sz5 : szOf Try.prog 5 = 1 := by kernel_rfl
theorem sz30 : szOf Try.prog 30 = 13 := by kernel_rfl
theorem sz82 : szOf Try.prog 82 = 14 := by kernel_rfl
theorem ag5 : aggOf Try.prog 5 = false := by kernel_rfl
theorem ag30 : aggOf Try.prog 30 = true := by kernel_rfl
theorem ag82 : aggOf Try.prog 82 = true := by kernel_rfl

theorem all_of {α β : Type} {g : α → β} : ∀ {l : List β}, (∀ x, x ∈ l → ∃ y, x = g y) → ∃ ys : List α, l = ys.map g
  | [], _ => ⟨[], rfl⟩
  | x :: l, h => by
    obtain ⟨y, rfl⟩ := h x (List.mem_cons_self ..)
    obtain ⟨ys, rfl⟩ := all_of fun z hz => h z (List.mem_cons_of_mem _ hz)
    exact ⟨y :: ys, rfl⟩

theorem ty3 {k : Nat} {cs : List AV} (h : HasTy Try.prog k 3 cs) : ∃ n, cs = [.int .i64 n] := by
  cases k with
  | zero => exact h.elim
  | succ k => simp only [HasTy, u3] at h; obtain ⟨n, h, _⟩ := h; exact ⟨n, h⟩
theorem ty4 {k : Nat} {cs : List AV} (h : HasTy Try.prog k 4 cs) : ∃ b, cs = [.bool b] := by
  cases k with
  | zero => exact h.elim
  | succ k => simp only [HasTy, u4] at h; exact h
theorem ty9 {k : Nat} {cs : List AV} (h : HasTy Try.prog k 9 cs) : ∃ s, cs = [.str s] := by
  cases k with
  | zero => exact h.elim
  | succ k => simp only [HasTy, u9] at h; exact h
theorem ty26 {k : Nat} {cs : List AV} (h : HasTy Try.prog k 26 cs) : ∃ b, cs = [.tsl 1 (encB b)] := by
  cases k with
  | zero => exact h.elim
  | succ k =>
    simp only [HasTy, Try.underlying26, sz5, ag5] at h
    obtain ⟨l, rfl, hl⟩ := h
    obtain ⟨ys, rfl⟩ := all_of (g := fun c : UInt8 => AV.int .u8 c.toNat) (l := l) fun x hx => by
      obtain ⟨h1, h2⟩ := hl x hx
      cases k with
      | zero => exact h2.elim
      | succ k =>
        simp only [HasTy, u5] at h2
        obtain ⟨n, h3, h4⟩ := h2
        rw [h3] at h1
        cases h1
        have hn : 0 ≤ n ∧ n ≤ 255 := by simpa [Lit.wf, IntKind.min, IntKind.max, IntKind.signed, IntKind.bits] using h4
        refine ⟨UInt8.ofNat n.toNat, ?_⟩
        have : (UInt8.ofNat n.toNat).toNat = n.toNat := UInt8.toNat_ofNat_of_lt' (by show n.toNat < 256; omega)
        rw [this]
        congr 1
        omega
    exact ⟨ys, rfl⟩
theorem ty23 {k : Nat} {cs : List AV} (h : HasTy Try.prog k 23 cs) : ∃ d : Dec, cs = [.bool d.neg, .str d.digits, .int .i64 d.exp] := by
  cases k with
  | zero => exact h.elim
  | succ k =>
    simp only [HasTy, Try.underlying23, HasFs] at h
    obtain ⟨a, b, rfl, h1, c, d, rfl, h2, e, f, rfl, h3, rfl⟩ := h
    obtain ⟨x, rfl⟩ := ty4 h1
    obtain ⟨y, rfl⟩ := ty9 h2
    obtain ⟨z, rfl⟩ := ty3 h3
    exact ⟨⟨x, y, z⟩, rfl⟩
theorem ty25 {k : Nat} {cs : List AV} (h : HasTy Try.prog k 25 cs) : ∃ t : Tm, cs = [.int .i64 t.kind, .int .i64 t.day, .int .i64 t.nano, .int .i64 t.off] := by
  cases k with
  | zero => exact h.elim
  | succ k =>
    simp only [HasTy, Try.underlying25, HasFs] at h
    obtain ⟨a, b, rfl, h1, c, d, rfl, h2, e, f, rfl, h3, g, i, rfl, h4, rfl⟩ := h
    obtain ⟨x, rfl⟩ := ty3 h1
    obtain ⟨y, rfl⟩ := ty3 h2
    obtain ⟨z, rfl⟩ := ty3 h3
    obtain ⟨w, rfl⟩ := ty3 h4
    exact ⟨⟨x, y, z, w⟩, rfl⟩

theorem tyV : ∀ (k : Nat), (∀ cs, HasTy Try.prog k 30 cs → ∃ v : V, cs = (encV v).cells) ∧ (∀ cs, HasTy Try.prog k 82 cs → ∃ x : List UInt8 × V, cs = (encFd x).cells) ∧ (∀ cs, HasTy Try.prog k 27 cs → ∃ l : List V, cs = [.tsl 13 (l.map encV)]) ∧ (∀ cs, HasTy Try.prog k 28 cs → ∃ l : List (List UInt8 × V), cs = [.tsl 14 (l.map encFd)]) := by
  intro k
  induction k with
  | zero => exact ⟨fun cs h => h.elim, fun cs h => h.elim, fun cs h => h.elim, fun cs h => h.elim⟩
  | succ k ih =>
    obtain ⟨ih1, ih2, ih3, ih4⟩ := ih
    refine ⟨fun cs h => ?_, fun cs h => ?_, fun cs h => ?_, fun cs h => ?_⟩
    · simp only [HasTy, Try.underlying30, HasFs] at h
      obtain ⟨a1, b1, rfl, h1, a2, b2, rfl, h2, a3, b3, rfl, h3, a4, b4, rfl, h4, a5, b5, rfl, h5, a6, b6, rfl, h6, a7, b7, rfl, h7, a8, b8, rfl, h8, rfl⟩ := h
      obtain ⟨x1, rfl⟩ := ty3 h1
      obtain ⟨x2, rfl⟩ := ty4 h2
      obtain ⟨x3, rfl⟩ := ty23 h3
      obtain ⟨x4, rfl⟩ := ty25 h4
      obtain ⟨x5, rfl⟩ := ty9 h5
      obtain ⟨x6, rfl⟩ := ty26 h6
      obtain ⟨x7, rfl⟩ := ih3 _ h7
      obtain ⟨x8, rfl⟩ := ih4 _ h8
      refine ⟨.mk ⟨x1, x2, x3, x4, x5, x6⟩ x7 x8, ?_⟩
      rw [encV_eq]
      rfl
    · simp only [HasTy, Try.underlying82, HasFs] at h
      obtain ⟨a1, b1, rfl, h1, a2, b2, rfl, h2, rfl⟩ := h
      obtain ⟨x1, rfl⟩ := ty9 h1
      obtain ⟨x2, rfl⟩ := ih1 _ h2
      refine ⟨(x1, x2), ?_⟩
      simp [encFd, AV.cells]
    · simp only [HasTy, Try.underlying27, sz30, ag30] at h
      obtain ⟨l, rfl, hl⟩ := h
      obtain ⟨ys, rfl⟩ := all_of (g := encV) (l := l) fun x hx => by
        obtain ⟨h1, h2⟩ := hl x hx
        obtain ⟨v, hv⟩ := ih1 _ h2
        rw [hv] at h1
        refine ⟨v, ?_⟩
        rw [encV_eq] at h1 ⊢
        exact (Option.some.inj h1).symm
      exact ⟨ys, rfl⟩
    · simp only [HasTy, Try.underlying28, sz82, ag82] at h
      obtain ⟨l, rfl, hl⟩ := h
      obtain ⟨ys, rfl⟩ := all_of (g := encFd) (l := l) fun x hx => by
        obtain ⟨h1, h2⟩ := hl x hx
        obtain ⟨v, hv⟩ := ih2 _ h2
        rw [hv] at h1
        refine ⟨v, ?_⟩
        unfold encFd at h1 ⊢
        exact (Option.some.inj h1).symm
      exact ⟨ys, rfl⟩

theorem argV {x : AV} (h : ArgTy Try.prog 30 x) : ∃ v : V, x = encV v := by
  obtain ⟨k, h1, h2⟩ := h
  obtain ⟨v, hv⟩ := (tyV k).1 _ h2
  rw [hv, ag30] at h1
  refine ⟨v, ?_⟩
  rw [encV_eq] at h1 ⊢
  exact (Option.some.inj h1).symm

theorem bulkFn (H : Type) : BulkFn (H := H) Rows.uptoBulk Rows.uptoBulkAll where
  one d := by
    cases d with
    | lit l => cases l <;> simp [Rows.uptoBulk]
    | _ => simp [Rows.uptoBulk]
  str b := by simp [Rows.uptoBulk]
  slice e s := by simp [Rows.uptoBulk]
  agg p := by simp [Rows.uptoBulk]
  nil := by simp [Rows.uptoBulkAll]
  cons d l := by simp [Rows.uptoBulkAll]

theorem run (xs : List AV) (h : ArgsTy Try.prog Try.f3.params.toList xs) (hb : AV.bulks xs ≤ 1048576) : BS C0 (.prun 3 xs (.bool true)) := by
  rw [Try.params3] at h
  match xs, h with
  | [x], h =>
    obtain ⟨v, rfl⟩ := argV h.1
    refine qpathSteps_run v ?_
    simpa [AV.bulks, V.bulk] using hb

theorem lifted (os : Os) (started : os.Started) (H : Type) (enc : TypeId × Value → H) (F : Stop.Interp) :
    ReturnsInHanded {} Try.checked os 3 .any ((Rows.OpenSpec.upto Rows.qpathStepsSpec).pre6 enc Try.prog Try.f3 Rows.qpathStepsUptoRow.domain false) (((Rows.OpenSpec.upto Rows.qpathStepsSpec).at F).post enc Try.prog Try.f3 false true false false) := by
  refine returnsInHanded_of_cond (C := Try.checked) (s := Rows.OpenSpec.upto Rows.qpathStepsSpec) (k := Rows.uptoSmall) rfl own started (by kernel_rfl) Try.func3
    (OpenSpec.witness (enc := enc) (C := Try.checked) (s := Rows.OpenSpec.upto Rows.qpathStepsSpec) (k := Rows.uptoSmall) rfl false
      ⟨#[], #[.agg #[.int .i64 0, .bool false, .bool false, .string ⟨#[]⟩, .int .i64 0, .int .i64 0, .int .i64 0, .int .i64 0, .int .i64 0, .string ⟨#[]⟩, .slice none 0 0, .slice none 0 0, .slice none 0 0]], []⟩ 8 (by kernel_rfl) (by kernel_rfl) (by kernel_rfl)
      (x := ([.agg [.lit (.int .i64 0), .lit (.bool false), .agg [.lit (.bool false), .lit (.string []), .lit (.int .i64 0)], .agg [.lit (.int .i64 0), .lit (.int .i64 0), .lit (.int .i64 0), .lit (.int .i64 0)], .lit (.string []), .nil, .nil, .nil]], [], [])) (by kernel_rfl) rfl (by kernel_rfl)) ?_
  intro W base args ds gs before hval hW _ hk _
  have hk' : Rows.uptoBulkAll (ds ++ gs) ≤ 1048576 := of_decide_eq_true hk
  refine law_contract (s := Rows.qpathStepsSpec) (fn := Try.f3) (g := 3) (f := 3) (tb := 4) (N := 1048576) ctxOk laid (bulkFn H) tysOk rfl (fun ds hd => ?_) (by kernel_rfl) (fun t ht => ?_) (by kernel_rfl) (by kernel_rfl) u4 run hval hW hk'
  · match ds, hd with
    | [d], _ => rfl
  · rw [Try.params3] at ht
    simp at ht
    subst ht
    simp [tys]

theorem over : Rows.qpathStepsUptoRow.holds Try.pinned (Rows.OpenSpec.upto Rows.qpathStepsSpec) :=
  OpenClaim.holds_of_cond 3 Try.f3 rfl rfl rfl rfl rfl rfl rfl ⟨rfl, rfl, rfl, rfl, rfl⟩ rfl rfl rfl rfl rfl (by kernel_rfl) Try.func3 (by kernel_rfl)
    (of_decide_eq_true (by kernel_rfl)) (by unfold Func.isWrapper; first | (rw [if_pos (by decide +kernel)]; kernel_rfl) | (rw [if_neg (by decide +kernel)]; exact ⟨rfl, rfl⟩))
    (fun os started H enc _ F => lifted os started H enc F)

theorem proved : Rows.QpathStepsUptoSaid := over
end Go.Proofs.Ytajfhbpnjcdpeaa
