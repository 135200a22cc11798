/- The identifiers tell the truth of the data in every play, whatever the play. -/
import Derived.Test.YtboanmhibbhceaaTruthNo
import Derived.Deep.SlicePairs
namespace Go.Proofs.Ytboanmhibbhceaa
open Go.RowKit
set_option linter.unusedVariables false
set_option linter.unusedSimpArgs false

theorem identTruth_calls (created : Bool) (first : Int) (hx : 0 ≤ first) (pa : Option Addr) (n cp : Nat) (w : World) (hn : n ≤ 8796093022208) (hD : Deeds w pa n) : Pur Try.prog 7 #[.bool created, .int .u64 first, .slice pa n cp] w (.bool true) := by
  cases created
  · cases e0 : (first == 0)
    · cases e16 : (first.tmod 16 != 0)
      · exact identTruth_one first e0 e16 hx pa n cp w hn hD
      · exact identTruth_askew first e0 e16 pa n cp w
    · exact identTruth_zero first e0 pa n cp w
  · exact identTruth_new first pa n cp w hn hD

section
open Go.ChangeShapes
variable {H : Type} {enc : TypeId × Value → H} {P : Program} {w : World} {base : Nat} {spare : Nat → Bool} {held : Bool}
theorem trodAll_tri {t t' t'' : TypeId} {args : Array Value} {ds : List (DataW H)} {ps : List MemPlace} (h : DataW.TrodAll enc P w base spare held [t, t', t''] args.toList ds ps) :
    ∃ v v' v'' d d' d'' p p' p'', args = #[v, v', v''] ∧ ds = [d, d', d''] ∧ DataW.Trod enc P w base spare held t v d p ∧ DataW.Trod enc P w base spare held t' v' d' p' ∧ DataW.Trod enc P w base spare held t'' v'' d'' p'' := by
  obtain ⟨v, vs, d, ds', p, q, hargs, rfl, rfl, hd, hrest⟩ := trodAll_cons h
  obtain ⟨v', vs', d', ds'', p', q', rfl, rfl, rfl, hd', hrest'⟩ := trodAll_cons hrest
  obtain ⟨v'', vs'', d'', ds''', p'', q'', rfl, rfl, rfl, hd'', hrest''⟩ := trodAll_cons hrest'
  obtain ⟨rfl, rfl, rfl⟩ := trodAll_nil hrest''
  exact ⟨v, v', v'', d, d', d'', p, p', p'', by cases args; simp_all, rfl, hd, hd', hd''⟩
end

theorem cell_lt {w : World} {a : Addr} {v : Value} (h : w.cell? a = some v) : a.block < w.heap.size := by
  unfold World.cell? at h
  split at h
  · rename_i hh
    exact (Array.getElem?_eq_some_iff.1 hh).1
  · simp at h

theorem cuB : Try.prog.underlying 4 = some .bool := by kernel_rfl
theorem cuU : Try.prog.underlying 22 = some (.int .u64) := by kernel_rfl
theorem cuS : Try.prog.underlying 45 = some (.slice 57) := by kernel_rfl
theorem cuI : Try.prog.underlying 3 = some (.int .i64) := by kernel_rfl
theorem cuD : ∃ f0 f1 : Field, Try.prog.underlying 57 = some (.struct #[f0, f1]) ∧ f0.offset = 0 ∧ f1.offset = 1 ∧ f0.type = 3 ∧ f1.type = 3 := ⟨_, _, Try.underlying57, rfl, rfl, rfl, rfl⟩
theorem ccD : Try.prog.cellsOf 57 = 2 := by kernel_rfl
theorem ccI : Try.prog.cellsOf 3 = 1 := by kernel_rfl
theorem cbD : Try.prog.bytesOf 57 = 16 := by kernel_rfl

set_option maxRecDepth 100000 in
theorem identTruth_lifted (os : Os) (started : os.Started) (H : Type) (enc : TypeId × Value → H) :
    ReturnsInHanded {} Try.checked os 7 .any (Rows.identTruthSpec.pre6 enc Try.prog Try.f7 Rows.identTruthRow.domain false) (Rows.identTruthSpec.post enc Try.prog Try.f7 false true false false) := by
  refine returnsInHanded_of_change_sized (C := Try.checked) seat_own started (by kernel_rfl) Try.func7
    (ChangeSpec.witness6 (enc := enc) (C := Try.checked) false ⟨#[], #[.bool false, .int .u64 0, .slice none 0 0], []⟩ 8 (by kernel_rfl) (by kernel_rfl) (by kernel_rfl) (by kernel_rfl)) ?_
  intro W base args ds gs before hval hW hcnd hsz0 _
  have hsz : (DataW.weightsEach Try.prog (Try.f7.params.toList ++ Rows.identTruthSpec.plain.varTypes Try.prog) (ds ++ gs)).all (· ≤ reachBytes) = true := hsz0
  clear hsz0
  have hW' := hW
  obtain ⟨p, q, hA, hV, rfl, hfz, hnd⟩ := hW
  rw [Try.params7] at hA hval hsz
  obtain ⟨v0, v1, v2, d0, d1, d2, p0, p1, p2, rfl, rfl, h0, h1, h2⟩ := trodAll_tri hA
  obtain ⟨rfl, rfl⟩ := ChangeShapes.trodVars_none hV
  obtain ⟨created, rfl, _, _⟩ := open_bool cuB (hval 0 _ v0 rfl rfl) h0
  obtain ⟨first, rfl, _, _, hwf⟩ := ChangeShapes.open_int cuU (hval 1 _ v1 rfl rfl) h1
  obtain ⟨pa, n, cp, rfl⟩ := Go.WideShapes.okWide_slice cuS (hval 2 _ v2 rfl rfl)
  have hx : 0 ≤ first := by
    have := hwf
    simp only [Lit.wf] at this
    simp at this
    have hm : IntKind.u64.min = 0 := by decide
    omega
  have hND : n ≤ 8796093022208 ∧ Deeds W pa n := by
    obtain ⟨fuel, hf⟩ := h2
    obtain ⟨f0, f1, hu, o0, o1, ty0, ty1⟩ := cuD
    rcases Go.Deep.open_slice_pairs cuS hu ccD o0 o1 (by rw [ty0]; exact ccI) (by rw [ty1]; exact ccI) hf with ⟨hcs, hx'⟩ | ⟨a, len, cap, m, k, V0, V1, D0, D1, P0, P1, hcs, hb, hl, hm, hmm, hx', hall⟩
    · simp [Value.cells] at hcs
      obtain ⟨rfl, rfl, rfl⟩ := hcs
      exact ⟨by omega, fun i hi => absurd hi (by omega)⟩
    · simp [Value.cells] at hcs
      obtain ⟨rfl, rfl, rfl⟩ := hcs
      simp only [Prod.mk.injEq] at hx'
      obtain ⟨rfl, _⟩ := hx'
      have hr := sized_slice hsz (j := 2) rfl rfl cuS
      rw [cbD] at hr
      simp only [List.length_map, List.length_range, reachBytes] at hr
      have hmn : n ≤ m := by rw [hmm]; split <;> omega
      refine ⟨by omega, fun i hi => ?_⟩
      obtain ⟨hc0, hc1, ht0, ht1⟩ := hall i (by omega)
      rw [ty0] at ht0
      rw [ty1] at ht1
      obtain ⟨kd, e0, _, _⟩ := DataW.trod_int cuI ht0
      obtain ⟨nd, e1, _, _⟩ := DataW.trod_int cuI ht1
      simp only [List.cons.injEq, and_true] at e0 e1
      have hsp := World.cell?_spot (hall 0 (by omega)).1
      obtain ⟨g, off, spot⟩ := a
      have hspot : spot = none := by simpa [Addr.add] using hsp
      subst hspot
      rw [Go.WideShapes.add_plain] at hc0 hc1
      have hlt : g < W.heap.size := cell_lt hc0
      refine ⟨g, off, rfl, hlt, kd, nd, ?_, ?_⟩
      · rw [← e0]; exact hc0
      · rw [← e1]; exact hc1
  refine (identTruth_calls created first hx pa n cp W hND.1 hND.2).out.mono fun e W' ⟨he, hb⟩ => ⟨_, he, ?_⟩
  exact law_post (tb := 4) seat_laid rfl rfl Try.underlying4 (by kernel_rfl) (fun l hl => by match l, hl with | [_, _, _], _ => rfl) hW' hb

theorem identTruth_holds : Rows.IdentTruthSaid :=
  OpenClaim.holds_of_wide 7 Try.f7 rfl rfl rfl rfl rfl rfl rfl ⟨rfl, rfl, rfl, rfl, rfl⟩ rfl rfl rfl rfl rfl (by kernel_rfl) Try.func7 (by kernel_rfl)
    (of_decide_eq_true (by kernel_rfl)) (by unfold Func.isWrapper; rw [if_neg (of_decide_eq_false (by kernel_rfl))]; exact ⟨rfl, rfl⟩)
    (fun os started H enc _ => identTruth_lifted os started H enc)
#print axioms identTruth_holds
end Go.Proofs.Ytboanmhibbhceaa
