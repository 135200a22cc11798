/- The packet's laws: beginnings, what follows, the place. -/
import Derived.Test.YtbgfoobcpacfeaaDoorPk8
namespace Go.Proofs.YtbgfoobcpacfeaaDoor
set_option linter.unusedVariables false
set_option linter.unusedSimpArgs false
namespace Wi
theorem rdAll_ok' : ∀ {fs : List Fd} {p : Pk} {l : List UInt8} {q : Pk} {r : List UInt8}, p.Ok → rdAll fs p l = .ok q r → q.Ok
  | [], p, l, q, r, hp, h => by
    simp only [rdAll, Res.ok.injEq] at h
    rw [← h.1]; exact hp
  | x :: fs, p, l, q, r, hp, h => by
    rw [rdAll] at h
    cases hq : rdF p x l with
    | ok t u => rw [hq] at h; exact rdAll_ok' (rdF_ok hp hq) h
    | bad u => rw [hq] at h; cases h
theorem unpack_nil : unpack [] = (Pk.zero 0, 0, 71) := rfl
/-- A beginning of a packet's bytes is too short. -/
theorem unpack_take {p : Pk} (hp : p.Ok) (h : packErr p = 0) {n : Nat} (hn : n < (packed p).length) : (unpack ((packed p).take n)).2 = (n, 71) := by
  obtain ⟨hk, -⟩ := packErr_ok h
  have hb := cmd_byte hk
  have h1 := unpack_packed_more hp h []
  rw [List.append_nil] at h1
  obtain ⟨pre, hl, -, hpre⟩ := (rdAll_good (fieldsOf p.cmd) (Pk.zero p.cmd)).ok _ _ _ h1
  rw [List.append_nil] at hl
  cases n with
  | zero => rfl
  | succ n =>
    unfold packed at hn ⊢
    rw [List.length_cons] at hn
    rw [List.take_succ_cons, unpack_known (by rw [hb]; exact hk), hb, hl, hpre n (by rw [← hl]; omega)]
    show ((_ :: _ : List UInt8).length, (71 : Int)) = _
    rw [List.length_cons, List.length_take, ← hl]
    congr 1
    omega
/-- With anything behind it there is too much. -/
theorem unpack_more {p : Pk} (hp : p.Ok) (h : packErr p = 0) {r : List UInt8} (hr : r ≠ []) : (unpack (packed p ++ r)).2 = ((packed p).length, 76) := by
  obtain ⟨hk, -⟩ := packErr_ok h
  have hb := cmd_byte hk
  have h1 := unpack_packed_more hp h r
  unfold packed
  rw [List.cons_append, unpack_known (by rw [hb]; exact hk), hb, h1]
  obtain ⟨d, r, rfl⟩ : ∃ d r', r = d :: r' := by
    cases r with
    | nil => exact absurd rfl hr
    | cons d r => exact ⟨d, r, rfl⟩
  show (_ - _, (76 : Int)) = _
  simp only [List.length_cons, List.length_append]
  congr 1
  omega
/-- The place. -/
theorem place_cases (b tail : List UInt8) : (unpack b).2 = (0, 0) ∨ (unpack b).2 = (b.length, 71) ∨
    ((unpack b).2.1 < b.length ∧ (((unpack b).2.2 = 76 ∧ (unpack (b.take (unpack b).2.1)).2 = (0, 0)) ∨ ((unpack b).2.2 = 74 ∧ (unpack b).2.1 = 0 ∧ (unpack (b.take (unpack b).2.1)).2 = ((unpack b).2.1, 71)) ∨ ((unpack b).2.2 = 75 ∧ (unpack b).2.1 ≠ 0 ∧ (unpack (b.take (unpack b).2.1)).2 = ((unpack b).2.1, 71))) ∧
      (unpack (b.take ((unpack b).2.1 + 1) ++ tail)).2 = ((unpack b).2.1, (unpack b).2.2)) := by
  cases b with
  | nil => exact .inr (.inl rfl)
  | cons c l =>
    cases hk : knownB c.toNat with
    | false =>
      have e : ∀ m, unpack (c :: m) = (Pk.zero 0, 0, 74) := fun m => by
        show (if knownB c.toNat = false then _ else _) = _
        rw [if_pos hk]
      rw [e]
      refine .inr (.inr ⟨by simp, .inr (.inl ⟨rfl, rfl, rfl⟩), ?_⟩)
      show (unpack (c :: _)).2 = _
      rw [e]
    | true =>
      have hu := fun m => unpack_known (b := c) (l := m) hk
      have hg := rdAll_good (fieldsOf c.toNat) (Pk.zero c.toNat)
      cases e : rdAll (fieldsOf c.toNat) (Pk.zero c.toNat) l with
      | ok q r =>
        cases r with
        | nil => rw [hu, e]; exact .inl rfl
        | cons d r =>
          obtain ⟨pre, rfl, h1, h2⟩ := hg.ok _ _ _ e
          have hc : unpack (c :: (pre ++ d :: r)) = (Pk.zero 0, pre.length + 1, 76) := by
            rw [hu, e]
            show (Pk.zero 0, _ - _, (76 : Int)) = _
            simp only [List.length_cons, List.length_append]
            congr 2
            omega
          rw [hc]
          refine .inr (.inr ⟨by simp, .inl ⟨rfl, ?_⟩, ?_⟩)
          · show (unpack ((c :: (pre ++ d :: r)).take (pre.length + 1))).2 = _
            have := h1 []
            rw [List.append_nil] at this
            rw [List.take_succ_cons, List.take_append_of_le_length (Nat.le_refl _), List.take_length, hu, this]
            rfl
          · show (unpack ((c :: (pre ++ d :: r)).take (pre.length + 1 + 1) ++ tail)).2 = _
            rw [List.take_succ_cons, List.take_append, List.take_of_length_le (by omega), show pre.length + 1 - pre.length = 1 by omega]
            show (unpack (c :: ((pre ++ [d]) ++ tail))).2 = _
            rw [List.append_assoc, hu, show [d] ++ tail = d :: tail from rfl, h1]
            show (_ - _, (76 : Int)) = _
            simp only [List.length_cons, List.length_append, List.length_nil]
            congr 1
            omega
      | bad r =>
        cases r with
        | nil => rw [hu, e]; exact .inr (.inl rfl)
        | cons d r =>
          obtain ⟨pre, rfl, h1, h2⟩ := hg.bad _ _ _ e
          have hc : unpack (c :: (pre ++ d :: r)) = (Pk.zero 0, pre.length + 1, 75) := by
            rw [hu, e]
            show (Pk.zero 0, _ - _, (75 : Int)) = _
            simp only [List.length_cons, List.length_append]
            congr 2
            omega
          rw [hc]
          refine .inr (.inr ⟨by simp, .inr (.inr ⟨rfl, Nat.succ_ne_zero _, ?_⟩), ?_⟩)
          · show (unpack ((c :: (pre ++ d :: r)).take (pre.length + 1))).2 = _
            have := h2 pre.length (Nat.le_refl _)
            rw [List.take_length] at this
            rw [List.take_succ_cons, List.take_append_of_le_length (Nat.le_refl _), List.take_length, hu, this]
            rfl
          · show (unpack ((c :: (pre ++ d :: r)).take (pre.length + 1 + 1) ++ tail)).2 = _
            rw [List.take_succ_cons, List.take_append, List.take_of_length_le (by omega), show pre.length + 1 - pre.length = 1 by omega]
            show (unpack (c :: ((pre ++ [d]) ++ tail))).2 = _
            rw [List.append_assoc, hu, show [d] ++ tail = d :: tail from rfl, h1]
            show (_ - _, (75 : Int)) = _
            simp only [List.length_cons, List.length_append, List.length_nil]
            congr 1
            omega
theorem wrF_len {p : Pk} (hp : p.Ok) {x : Fd} (h : datOk x = true) (hok : okF p x = true) : (wrF p x).length ≤ 1026 := by
  cases hd : Fd.isDat x with
  | false => exact Nat.le_trans (wr_len hp x hd) (by decide)
  | true =>
    cases x with
    | dat f =>
      have hm : meets (spansOf f p) p.data.length p.data.length = true := hok
      have := dat_small h hm
      show (be 2 p.data.length ++ p.data).length ≤ _
      rw [List.length_append, be_length]
      omega
    | num k f => cases hd
    | gens => cases hd
    | sum f => cases hd
theorem dropLast_flat {p : Pk} (hp : p.Ok) : ∀ (fs : List Fd), (∀ x ∈ fs.dropLast, Fd.isDat x = false) → (∀ x ∈ fs, (wrF p x).length ≤ 1026) → (fs.flatMap (wrF p)).length ≤ 32 * fs.length + 1026
  | [], _, _ => by simp
  | [x], _, h => by
    have := h x (by simp)
    simp only [List.flatMap_cons, List.flatMap_nil, List.append_nil, List.length_cons, List.length_nil]
    omega
  | x :: y :: fs, hd, h => by
    have h1 := wr_len hp x (hd x (by simp))
    have h2 := dropLast_flat hp (y :: fs) (fun z hz => hd z (by simp [hz])) (fun z hz => h z (by simp [hz]))
    rw [List.flatMap_cons, List.length_append]
    simp only [List.length_cons] at *
    omega
/-- A packet's bytes are few. -/
theorem packed_small {p : Pk} (hp : p.Ok) (h : packErr p = 0) : (packed p).length ≤ 1187 := by
  obtain ⟨hk, hok, -⟩ := packErr_ok h
  obtain ⟨s, hm⟩ := cmd_mem hk
  obtain ⟨h5, hl⟩ := dat_last (s, fieldsOf p.cmd) hm
  have h5' : (fieldsOf p.cmd).length ≤ 5 := h5
  have := dropLast_flat hp (fieldsOf p.cmd) hl (fun x hx => wrF_len hp ((fields_good hk).2 x hx).2 (hok x hx))
  unfold packed
  rw [List.length_cons]
  omega
theorem rdNum_near (s : List (Nat × Nat)) : ∀ (k v : Nat) (l : List UInt8), (∀ x r, rdNum s k v l = .ok x r → l.length = r.length + k) ∧ ∀ d r, rdNum s k v l = .bad (d :: r) → l.length ≤ (d :: r).length + k
  | 0, v, l => ⟨fun x r h => by simp only [rdNum, Res.ok.injEq] at h; rw [h.2]; rfl, fun d r h => by simp [rdNum] at h⟩
  | k + 1, v, [] => ⟨fun x r h => by simp [rdNum] at h, fun d r h => by simp [rdNum] at h⟩
  | k + 1, v, c :: l => by
    rw [rdNum]
    split
    · obtain ⟨h1, h2⟩ := rdNum_near s k (v * 256 + c.toNat) l
      exact ⟨fun x r h => by have := h1 x r h; rw [List.length_cons]; omega, fun d r h => by have := h2 d r h; rw [List.length_cons (a := c)]; omega⟩
    · exact ⟨fun x r h => (by cases h), fun d r h => by rw [Res.bad.injEq] at h; rw [h]; omega⟩
theorem rdSum_near (z : Bool) : ∀ (k : Nat) (l : List UInt8), ∀ d r, rdSum z k l = .bad (d :: r) → l.length ≤ (d :: r).length + k
  | 0, l, d, r, h => by simp [rdSum] at h
  | k + 1, [], d, r, h => by simp [rdSum] at h
  | k + 1, c :: l, d, r, h => by
    rw [rdSum] at h
    split at h
    · rw [Res.bad.injEq] at h; rw [h]; omega
    · cases hq : rdSum z k l with
      | ok t u => rw [hq] at h; cases h
      | bad u =>
        rw [hq] at h
        simp only [Res.bad.injEq] at h
        subst h
        have := rdSum_near z k l d r hq
        rw [List.length_cons (a := c)]
        omega
theorem rdF_near {p : Pk} {x : Fd} {l : List UInt8} : (Fd.isDat x = false → ∀ q r, rdF p x l = .ok q r → l.length ≤ r.length + 32) ∧ ∀ d r, rdF p x l = .bad (d :: r) → l.length ≤ (d :: r).length + 32 := by
  cases x with
  | num k f =>
    simp only [rdF]
    obtain ⟨h1, h2⟩ := rdNum_near (spansOf f p) 4 0 l
    cases hq : rdNum (spansOf f p) 4 0 l with
    | ok v u => exact ⟨fun _ q r h => by simp only [Res.ok.injEq] at h; have := h1 v u hq; rw [← h.2]; omega, fun d r h => (by cases h)⟩
    | bad u => exact ⟨fun _ q r h => (by cases h), fun d r h => by simp only [Res.bad.injEq] at h; subst h; have := h2 d r hq; omega⟩
  | gens =>
    simp only [rdF]
    split
    · exact ⟨fun _ q r h => (by cases h), fun d r h => by simp only [Res.bad.injEq] at h; cases h⟩
    · exact ⟨fun _ q r h => by simp only [Res.ok.injEq] at h; rw [← h.2, List.length_drop]; omega, fun d r h => (by cases h)⟩
  | sum f =>
    simp only [rdF]
    cases hq : rdSum (zeroOf f p) 32 l with
    | ok v u =>
      refine ⟨fun _ q r h => ?_, fun d r h => (by cases h)⟩
      simp only [Res.ok.injEq] at h
      obtain ⟨h1, h2, -⟩ := rdSum_ok _ _ _ _ _ hq
      rw [← h.2, ← h2, List.length_append, h1]; omega
    | bad u => exact ⟨fun _ q r h => (by cases h), fun d r h => by simp only [Res.bad.injEq] at h; subst h; exact rdSum_near _ 32 l d r hq⟩
  | dat f =>
    refine ⟨fun h => (by cases h), fun d r h => ?_⟩
    simp only [rdF] at h
    obtain ⟨h1, h2⟩ := rdNum_near (spansOf f p) 2 0 l
    cases hq : rdNum (spansOf f p) 2 0 l with
    | ok v u =>
      rw [hq] at h
      simp only at h
      split at h
      · simp only [Res.bad.injEq] at h; cases h
      · cases h
    | bad u =>
      rw [hq] at h
      simp only [Res.bad.injEq] at h
      subst h
      have := h2 d r hq
      omega
theorem rdAll_near : ∀ (fs : List Fd) (p : Pk) (l : List UInt8) (d : UInt8) (r : List UInt8), (∀ x ∈ fs.dropLast, Fd.isDat x = false) → rdAll fs p l = .bad (d :: r) → l.length ≤ (d :: r).length + 32 * fs.length
  | [], p, l, d, r, _, h => by simp [rdAll] at h
  | [x], p, l, d, r, _, h => by
    rw [rdAll] at h
    cases hq : rdF p x l with
    | ok q u => rw [hq] at h; simp [rdAll] at h
    | bad u =>
      rw [hq] at h
      simp only [Res.bad.injEq] at h
      subst h
      exact rdF_near.2 d r hq
  | x :: y :: fs, p, l, d, r, hd, h => by
    rw [rdAll] at h
    cases hq : rdF p x l with
    | ok q u =>
      rw [hq] at h
      have h1 := (rdF_near (p := p) (x := x) (l := l)).1 (hd x (by simp)) q u hq
      have h2 := rdAll_near (y :: fs) q u d r (fun z hz => hd z (by simp [hz])) h
      simp only [List.length_cons] at *
      omega
    | bad u =>
      rw [hq] at h
      simp only [Res.bad.injEq] at h
      subst h
      have := (rdF_near (p := p) (x := x) (l := l)).2 d r hq
      simp only [List.length_cons] at *
      omega
/-- The place lies near. -/
theorem place_near (b : List UInt8) (h : (unpack b).2.2 ≠ 0) (h' : (unpack b).2.2 ≠ 71) : (unpack b).2.1 ≤ 1187 := by
  cases b with
  | nil => exact absurd rfl h'
  | cons c l =>
    cases hk : knownB c.toNat with
    | false =>
      have e : unpack (c :: l) = (Pk.zero 0, 0, 74) := by
        show (if knownB c.toNat = false then _ else _) = _
        rw [if_pos hk]
      rw [e]
      exact Nat.zero_le _
    | true =>
      rw [unpack_known hk] at h h' ⊢
      cases e : rdAll (fieldsOf c.toNat) (Pk.zero c.toNat) l with
      | ok q r =>
        rw [e] at h
        cases r with
        | nil => exact absurd rfl h
        | cons d r =>
          obtain ⟨h1, h2⟩ := rdAll_packed hk e
          have h3 := packed_small (rdAll_ok' (Pk.zero_ok _) e) h1
          have h4 := congrArg List.length h2
          rw [List.length_append] at h4
          show _ - _ ≤ _
          omega
      | bad r =>
        rw [e] at h'
        cases r with
        | nil => exact absurd rfl h'
        | cons d r =>
          obtain ⟨s, hm⟩ := cmd_mem hk
          obtain ⟨h5, hl⟩ := dat_last (s, fieldsOf c.toNat) hm
          have h5' : (fieldsOf c.toNat).length ≤ 5 := h5
          have := rdAll_near _ _ _ d r hl e
          show _ - _ ≤ _
          rw [List.length_cons (a := c)]
          omega
end Wi
end Go.Proofs.YtbgfoobcpacfeaaDoor
