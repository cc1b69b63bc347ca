/-
  SenseNil: for every event, the function returns true, and its argument reads as it did.
-/
import Derived.Test.YtmnaiddobipclaaCxWorks
import Derived.Test.YtmnaiddobipclaaCxClose
import Derived.Test.YtmnaiddobipclaaRows
import Derived.RowKit3
namespace Go.Proofs.Ytmnaiddobipclaa.senseNil
open Go.ChangeShapes Go.WideShapes Go.ChangeAt Go.RowKit

theorem run (a b : Int) : CX.callF CX.env (CX.cx CX.env 1000) 0 .e 0 12 [.agg [.int .i64 a, .int .i64 b]] (fun v _ _ => CX.retV v .e 0) = some (.normal, ⟨0, 0, .n .e (some (.bool true)) .e, .e, 0, []⟩) := by kernel_rfl

theorem walk (a b : Int) (w : World) : Calls Try.prog 12 #[.agg #[.int .i64 a, .int .i64 b]] w fun e w' => e = .returned (.bool true) ∧ CX.Kept w w' := by
  refine (CX.cx_call CX.env_ok (xs := [.agg #[.int .i64 a, .int .i64 b]]) (by simp only [CX.RvL, CX.Rv, and_true]; exact ⟨[.int .i64 a, .int .i64 b], by simp [CX.RvL, CX.Rv], rfl⟩) (run a b) w).mono fun e w' he => ?_
  obtain ⟨u, ρ, n, rfl, h, rest⟩ := he
  simp only [CX.Rv] at h
  subst h
  exact ⟨rfl, rest⟩

theorem two_of {α : Type} : ∀ {l : List α}, l.length = 2 → ∃ a b, l = [a, b]
  | [a, b], _ => ⟨a, b, rfl⟩

theorem own : ownKnob Try.prog.godebug = none := by kernel_rfl
theorem cells3 : Try.prog.cellsOf 3 = 1 := by kernel_rfl
theorem cells65 : Try.prog.cellsOf 65 = 2 := by kernel_rfl

set_option maxRecDepth 100000 in
set_option maxHeartbeats 400000 in
theorem lifted (os : Os) (started : os.Started) (H : Type) (enc : TypeId × Value → H) :
    ReturnsInHanded {} Try.checked os 12 .any (Rows.senseNilSpec.pre6 enc Try.prog Try.f12 Rows.senseNilRow.domain false) (Rows.senseNilSpec.post enc Try.prog Try.f12 false true false false) := by
  refine returnsInHanded_of_change (C := Try.checked) own started (by kernel_rfl) Try.func12
    (ChangeSpec.witness6 (enc := enc) (C := Try.checked) false ⟨#[], #[.agg #[.int .i64 0, .int .i64 0]], []⟩ 8 (by kernel_rfl) (by kernel_rfl) (by kernel_rfl) (by kernel_rfl)) ?_
  intro W base args ds gs before hval0 hW _ _
  have hval : ∀ (j : Nat) t v, Try.f12.params[j]? = some t → args[j]? = some v → Value.okWide Try.prog W .any base t v := hval0
  have hW' := hW
  obtain ⟨p, q, hA0, hV, rfl, _, _⟩ := hW
  have hA : DataW.TrodAll enc Try.prog W 0 (fun _ => true) true Try.f12.params.toList args.toList ds p := hA0
  rw [Try.params12] at hA hval
  obtain ⟨v0, d0, rfl, rfl, h0⟩ := trodAll_one hA
  obtain ⟨rfl, rfl⟩ := trodVars_none hV
  obtain ⟨cs, rfl, hsz⟩ := okWide_struct Try.underlying65 (hval 0 65 v0 rfl rfl)
  rw [cells65] at hsz
  obtain ⟨l⟩ := cs
  obtain ⟨c0, c1, rfl⟩ : ∃ c0 c1, l = [c0, c1] := two_of hsz
  obtain ⟨fuel, hf⟩ := h0
  obtain ⟨y0, y1, m, hx, _, hy0, hy1⟩ := trod_struct2 Try.underlying65 hf
  obtain ⟨a, e0, rfl, wa⟩ := DataW.trod_int Try.underlying3 hy0
  obtain ⟨b, e1, rfl, wb⟩ := DataW.trod_int Try.underlying3 hy1
  simp [Value.cells, cells3] at e0 e1
  subst e0 e1
  simp only [Prod.mk.injEq] at hx
  obtain ⟨rfl, rfl⟩ := hx
  clear hA0 hval0
  simp only [List.append_nil] at hW'
  have structReads : ∀ (W' : World) (sp : Nat → Bool), DataW.Trod enc Try.prog W' 0 sp true 65 (.agg #[.int .i64 a, .int .i64 b]) (.agg [.lit (.int .i64 a), .lit (.int .i64 b)]) [] := fun W' sp => ⟨2, by
    have f0 : DataW.trod enc Try.prog W' 0 sp true 1 3 [.int .i64 a] = some (.lit (.int .i64 a), []) := by simp [DataW.trod, Try.underlying3, wa]
    have f1 : DataW.trod enc Try.prog W' 0 sp true 1 3 [.int .i64 b] = some (.lit (.int .i64 b), []) := by simp [DataW.trod, Try.underlying3, wb]
    have := trod_struct2_mk (enc := enc) (w := W') (base := 0) (spare := sp) (held := true) (n := 1) (cs := [.int .i64 a, .int .i64 b]) Try.underlying65 (by simp [cells65]) (by simpa [cells3] using f0) (by simpa [cells3] using f1)
    simpa [Value.cells] using this⟩
  refine (walk a b W).mono fun e W' ⟨he, hg⟩ => ?_
  subst he
  exact ⟨_, rfl, CX.post_kept (pa := []) (pv := []) hW' (fun _ _ _ => trodAll_mk1 (shut_bool Try.underlying4 _)) (fun sp _ => trodAll_mk1 (structReads _ sp)) (fun _ _ => rfl) rfl hg (ok_one (by kernel_rfl) rfl (okWide_bool_mk Try.underlying4 _))⟩

theorem holds : Rows.SenseNilSaid :=
  OpenClaim.holds_of_wide 12 Try.f12 rfl rfl rfl rfl rfl rfl rfl ⟨rfl, rfl, rfl, rfl, rfl⟩ rfl rfl rfl rfl rfl (by kernel_rfl) Try.func12 (by kernel_rfl)
    (of_decide_eq_true (by kernel_rfl)) (by unfold Func.isWrapper; first | (rw [if_pos (by decide +kernel)]; kernel_rfl) | (rw [if_neg (by decide +kernel)]; exact ⟨rfl, rfl⟩))
    (fun os started H enc _ => lifted os started H enc)
end Go.Proofs.Ytmnaiddobipclaa.senseNil
