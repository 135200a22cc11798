/- Resolve of the document answers as the program's: joined. -/
import Derived.Test.YtboanmhibbhceaaRefResolve25
import Derived.Test.YtboanmhibbhceaaRefResolve26
namespace Go.Proofs.Ytboanmhibbhceaa
open Go.RowKit
set_option linter.unusedVariables false
set_option linter.unusedSimpArgs false

theorem validQ_0 {q : Q} (h : Spec.validQ q = 0) : (q.node = 0 ∨ q.node = 1) ∧ 0 ≤ q.ownMarked ∧ 0 ≤ q.peerMarked ∧ (q.ownRole = 0 ∨ q.ownRole = 1) ∧ (q.peerRole = 0 ∨ q.peerRole = 1) := by
  unfold Spec.validQ at h
  (repeat' split at h) <;> omega

theorem refResolve_main (k r node sb0 sb1 sb2 ownRole peerRole ownMarked peerMarked ownFlags peerFlags : Int) (w : World) (hk : k = 5 ∨ k = 6) (hv : Spec.validQ (mkQ node sb0 sb1 sb2 ownRole peerRole ownMarked peerMarked ownFlags peerFlags) = 0) :
    Pur Try.prog 21 (resArgs k r node sb0 sb1 sb2 ownRole peerRole ownMarked peerMarked ownFlags peerFlags) w (vr (Spec.resolve k r (mkQ node sb0 sb1 sb2 ownRole peerRole ownMarked peerMarked ownFlags peerFlags))) := by
  have hw : Spec.wrong k (mkQ node sb0 sb1 sb2 ownRole peerRole ownMarked peerMarked ownFlags peerFlags) = 0 := by rw [wrong_1 (by omega)]; exact hv
  obtain ⟨hn, ho, hp, hr1, hr2⟩ := validQ_0 hv
  rw [← resP_eq hk hv]
  simp only [mkQ] at hn ho hp hr1 hr2 hw ⊢
  rcases hk with rfl | rfl <;> rcases hr1 with rfl | rfl <;> rcases hr2 with rfl | rfl <;> cases fo : (Go.bits .and .u32 ownFlags 16 != 0) <;> cases fp : (Go.bits .and .u32 peerFlags 16 != 0)
  · exact refResolve_50000 _ _ _ _ _ _ _ _ _ w _ (by simpa only [fo, fp] using hw) (by rw [fo, fp]) hn ho hp fo fp
  · exact refResolve_50001 _ _ _ _ _ _ _ _ _ w _ (by simpa only [fo, fp] using hw) (by rw [fo, fp]) hn ho hp fo fp
  · exact refResolve_50010 _ _ _ _ _ _ _ _ _ w _ (by simpa only [fo, fp] using hw) (by rw [fo, fp]) hn ho hp fo fp
  · exact refResolve_50011 _ _ _ _ _ _ _ _ _ w _ (by simpa only [fo, fp] using hw) (by rw [fo, fp]) hn ho hp fo fp
  · exact refResolve_50100 _ _ _ _ _ _ _ _ _ w _ (by simpa only [fo, fp] using hw) (by rw [fo, fp]) hn ho hp fo fp
  · exact refResolve_50101 _ _ _ _ _ _ _ _ _ w _ (by simpa only [fo, fp] using hw) (by rw [fo, fp]) hn ho hp fo fp
  · exact refResolve_50110 _ _ _ _ _ _ _ _ _ w _ (by simpa only [fo, fp] using hw) (by rw [fo, fp]) hn ho hp fo fp
  · exact refResolve_50111 _ _ _ _ _ _ _ _ _ w _ (by simpa only [fo, fp] using hw) (by rw [fo, fp]) hn ho hp fo fp
  · exact refResolve_51000 _ _ _ _ _ _ _ _ _ w _ (by simpa only [fo, fp] using hw) (by rw [fo, fp]) hn ho hp fo fp
  · exact refResolve_51001 _ _ _ _ _ _ _ _ _ w _ (by simpa only [fo, fp] using hw) (by rw [fo, fp]) hn ho hp fo fp
  · exact refResolve_51010 _ _ _ _ _ _ _ _ _ w _ (by simpa only [fo, fp] using hw) (by rw [fo, fp]) hn ho hp fo fp
  · exact refResolve_51011 _ _ _ _ _ _ _ _ _ w _ (by simpa only [fo, fp] using hw) (by rw [fo, fp]) hn ho hp fo fp
  · exact refResolve_51100 _ _ _ _ _ _ _ _ _ w _ (by simpa only [fo, fp] using hw) (by rw [fo, fp]) hn ho hp fo fp
  · exact refResolve_51101 _ _ _ _ _ _ _ _ _ w _ (by simpa only [fo, fp] using hw) (by rw [fo, fp]) hn ho hp fo fp
  · exact refResolve_51110 _ _ _ _ _ _ _ _ _ w _ (by simpa only [fo, fp] using hw) (by rw [fo, fp]) hn ho hp fo fp
  · exact refResolve_51111 _ _ _ _ _ _ _ _ _ w _ (by simpa only [fo, fp] using hw) (by rw [fo, fp]) hn ho hp fo fp
  · exact refResolve_60000 _ _ _ _ _ _ _ _ _ w _ (by simpa only [fo, fp] using hw) (by rw [fo, fp]) hn ho hp fo fp
  · exact refResolve_60001 _ _ _ _ _ _ _ _ _ w _ (by simpa only [fo, fp] using hw) (by rw [fo, fp]) hn ho hp fo fp
  · exact refResolve_60010 _ _ _ _ _ _ _ _ _ w _ (by simpa only [fo, fp] using hw) (by rw [fo, fp]) hn ho hp fo fp
  · exact refResolve_60011 _ _ _ _ _ _ _ _ _ w _ (by simpa only [fo, fp] using hw) (by rw [fo, fp]) hn ho hp fo fp
  · exact refResolve_60100 _ _ _ _ _ _ _ _ _ w _ (by simpa only [fo, fp] using hw) (by rw [fo, fp]) hn ho hp fo fp
  · exact refResolve_60101 _ _ _ _ _ _ _ _ _ w _ (by simpa only [fo, fp] using hw) (by rw [fo, fp]) hn ho hp fo fp
  · exact refResolve_60110 _ _ _ _ _ _ _ _ _ w _ (by simpa only [fo, fp] using hw) (by rw [fo, fp]) hn ho hp fo fp
  · exact refResolve_60111 _ _ _ _ _ _ _ _ _ w _ (by simpa only [fo, fp] using hw) (by rw [fo, fp]) hn ho hp fo fp
  · exact refResolve_61000 _ _ _ _ _ _ _ _ _ w _ (by simpa only [fo, fp] using hw) (by rw [fo, fp]) hn ho hp fo fp
  · exact refResolve_61001 _ _ _ _ _ _ _ _ _ w _ (by simpa only [fo, fp] using hw) (by rw [fo, fp]) hn ho hp fo fp
  · exact refResolve_61010 _ _ _ _ _ _ _ _ _ w _ (by simpa only [fo, fp] using hw) (by rw [fo, fp]) hn ho hp fo fp
  · exact refResolve_61011 _ _ _ _ _ _ _ _ _ w _ (by simpa only [fo, fp] using hw) (by rw [fo, fp]) hn ho hp fo fp
  · exact refResolve_61100 _ _ _ _ _ _ _ _ _ w _ (by simpa only [fo, fp] using hw) (by rw [fo, fp]) hn ho hp fo fp
  · exact refResolve_61101 _ _ _ _ _ _ _ _ _ w _ (by simpa only [fo, fp] using hw) (by rw [fo, fp]) hn ho hp fo fp
  · exact refResolve_61110 _ _ _ _ _ _ _ _ _ w _ (by simpa only [fo, fp] using hw) (by rw [fo, fp]) hn ho hp fo fp
  · exact refResolve_61111 _ _ _ _ _ _ _ _ _ w _ (by simpa only [fo, fp] using hw) (by rw [fo, fp]) hn ho hp fo fp

theorem refResolve_calls (k r node sb0 sb1 sb2 ownRole peerRole ownMarked peerMarked ownFlags peerFlags : Int) (w : World) :
    Pur Try.prog 21 (resArgs k r node sb0 sb1 sb2 ownRole peerRole ownMarked peerMarked ownFlags peerFlags) w (vr (Spec.resolve k r (mkQ node sb0 sb1 sb2 ownRole peerRole ownMarked peerMarked ownFlags peerFlags))) := by
  by_cases hk : k < 0 ∨ 7 < k
  · rw [res_kinds hk]
    exact refResolve_wrong _ _ _ _ _ _ _ _ _ _ _ _ w 1 (wrong_0 hk) (by decide)
  by_cases hv : Spec.validQ (mkQ node sb0 sb1 sb2 ownRole peerRole ownMarked peerMarked ownFlags peerFlags) = 0
  · by_cases h5 : k = 5
    · exact refResolve_main _ _ _ _ _ _ _ _ _ _ _ _ w (.inl h5) hv
    by_cases h6 : k = 6
    · exact refResolve_main _ _ _ _ _ _ _ _ _ _ _ _ w (.inr h6) hv
    rw [res_other hk hv h5 h6]
    exact refResolve_other _ _ _ _ _ _ _ _ _ _ _ _ w ((wrong_1 hk).trans hv) (by simpa using h5) (by simpa using h6)
  · rw [res_valid hk hv]
    exact refResolve_wrong _ _ _ _ _ _ _ _ _ _ _ _ w _ (wrong_1 hk) (by simpa [mkQ] using hv)
end Go.Proofs.Ytboanmhibbhceaa
