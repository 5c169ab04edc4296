/- What the reference draws from bytes: some number in its range, whatever the bytes. -/
import Derived.Test.YtigkmdlbijdoaaaGreatDoorBits
import Derived.Test.YtigkmdlbijdoaaaGreatDoorPx1
namespace Go.Proofs.YtigkmdlbijdoaaaGreatDoor.Dr
open Go.RowKit Go.Proofs.YtigkmdlbijdoaaaGreatDoor.P Go.Proofs.YtigkmdlbijdoaaaGreatDoor.Bt Go.Proofs.YtigkmdlbijdoaaaGreatDoorW.PrintWords Go.Proofs.YtigkmdlbijdoaaaGreatDoorW.PrintLast Go.Proofs.YtigkmdlbijdoaaaGreatDoorW.PrintMore
set_option linter.unusedVariables false
set_option linter.unusedSimpArgs false

def By (l : List Int) : Prop := ∀ x, x ∈ l → 0 ≤ x ∧ x ≤ 255
theorem by_wf {l : List Int} (h : ∀ x ∈ l, (Lit.int .u8 x).wf = true) : By l := by
  intro x hx
  have c : IntKind.u8.min ≤ x ∧ x ≤ IntKind.u8.max := by simpa [Lit.wf] using h x hx
  have a : IntKind.u8.min = 0 := by decide
  have b : IntKind.u8.max = 255 := by decide
  omega
theorem By.rd_ {l : List Int} (h : By l) (i : Int) : 0 ≤ rd l i ∧ rd l i ≤ 255 := by
  unfold rd
  rw [List.getD_eq_getElem?_getD]
  by_cases c : i.toNat < l.length
  · rw [List.getElem?_eq_getElem c]; exact h _ (List.getElem_mem c)
  · rw [List.getElem?_eq_none (by omega)]; exact ⟨by decide, by decide⟩
theorem low8 (a : Int) : 0 ≤ wrap64 (Go.bits .and .u64 a 255) ∧ wrap64 (Go.bits .and .u64 a 255) ≤ 255 := by
  have h : Go.bits .and .u64 a 255 = IntKind.u64.wrap ((BitVec.ofInt 64 a &&& BitVec.ofInt 64 255).toNat : Int) := rfl
  have h2 : (BitVec.ofInt 64 a &&& BitVec.ofInt 64 255).toNat ≤ 255 := by
    rw [BitVec.toNat_and]; exact Nat.and_le_right
  have h3 : Go.bits .and .u64 a 255 = ((BitVec.ofInt 64 a &&& BitVec.ofInt 64 255).toNat : Int) := by
    rw [h]; generalize (BitVec.ofInt 64 a &&& BitVec.ofInt 64 255).toNat = z at h2
    show (z : Int) % 18446744073709551616 = z
    omega
  rw [h3]
  generalize (BitVec.ofInt 64 a &&& BitVec.ofInt 64 255).toNat = z at h2
  rw [wrap_id (by omega) (by omega)]
  omega
theorem next_at {l : List Int} (h : By l) (q s : Int) (hq : 0 ≤ q) (hq' : q < 1000000) : ∃ x s', spec_l1Cur_next.f l q s = some (x, q + 1, s') ∧ 0 ≤ x ∧ x ≤ 255 := by
  have w : wrap64 (q + 1) = q + 1 := wrap_id (by omega) (by omega)
  have r := h.rd_ q
  have wr : wrap64 (rd l q) = rd l q := wrap_id (by omega) (by omega)
  unfold spec_l1Cur_next.f
  by_cases c : q < (l.length : Int)
  · rw [if_pos c, if_pos hq, w, if_pos (by omega), wr]
    exact ⟨_, _, rfl, r⟩
  · rw [if_neg c, w, if_neg (by omega)]
    exact ⟨_, _, rfl, low8 _⟩
theorem pick_at {l : List Int} (h : By l) (q s n : Int) (hq : 0 ≤ q) (hq' : q < 900000) (hn : 1 ≤ n) : ∃ x q' s', spec_l1Cur_pick.f l q s n = some (x, q', s') ∧ 0 ≤ x ∧ x < n ∧ q ≤ q' ∧ q' ≤ q + 2 := by
  unfold spec_l1Cur_pick.f
  by_cases c : n ≤ 1
  · rw [if_pos c]; exact ⟨0, q, s, rfl, by omega, by omega, by omega, by omega⟩
  · obtain ⟨x, s1, e1, hx⟩ := next_at h q s hq (by omega)
    rw [if_neg c, e1, Option.bind_some]
    simp only
    by_cases c2 : n > 200
    · obtain ⟨y, s2, e2, hy⟩ := next_at h (q + 1) s1 (by omega) (by omega)
      rw [if_pos c2, e2, Option.bind_some, if_neg (by omega), wrap_id (x := x * 256) (by omega) (by omega), wrap_id (by omega) (by omega)]
      exact ⟨_, q + 1 + 1, s2, rfl, Int.tmod_nonneg _ (by omega), Int.tmod_lt_of_pos _ (by omega), by omega, by omega⟩
    · rw [if_neg c2, if_neg (by omega)]
      exact ⟨_, q + 1, s1, rfl, Int.tmod_nonneg _ (by omega), Int.tmod_lt_of_pos _ (by omega), by omega, by omega⟩
theorem among_at {l : List Int} (h : By l) (q s : Int) (l1 : List Int) (hq : 0 ≤ q) (hq' : q < 900000) (hn : 1 ≤ l1.length) : ∃ x q' s', spec_l1Cur_among.f l q s l1 = some (x, q', s') ∧ x ∈ l1 ∧ q ≤ q' ∧ q' ≤ q + 2 := by
  obtain ⟨x, q', s', e, h1, h2, h3, h4⟩ := pick_at h q s l1.length hq hq' (by omega)
  unfold spec_l1Cur_among.f
  rw [e, Option.bind_some]
  simp only
  rw [if_pos h1, if_pos h2]
  refine ⟨_, _, _, rfl, ?_, h3, h4⟩
  unfold rd
  rw [List.getD_eq_getElem?_getD, List.getElem?_eq_getElem (by omega)]
  exact List.getElem_mem _
theorem poly_l0 {l : List Int} (h : By l) (m : Int) (hm : m ≤ 40) : ∀ (d : Nat) (i p q s : Int), i + d = m + 1 → 0 ≤ i → 0 ≤ q → q + 2 * d < 800000 → ∃ x q' s', (∀ k, d < k → spec_l1Cur_poly.l0 k m p i l q s = some (x, q', s')) ∧ q ≤ q' ∧ q' ≤ q + 2 * d := by
  intro d
  induction d with
  | zero =>
    intro i p q s hi h0 hq hq'
    refine ⟨p, q, s, fun k hk => ?_, by omega, by omega⟩
    obtain ⟨k, rfl⟩ : ∃ j, k = j + 1 := ⟨k - 1, by omega⟩
    rw [spec_l1Cur_poly.l0, if_neg (by omega)]
  | succ d ih =>
    intro i p q s hi h0 hq hq'
    obtain ⟨x, q1, s1, e, h1, h2, h3, h4⟩ := pick_at h q s 2 hq (by omega) (by omega)
    obtain ⟨y, q2, s2, e2, h5, h6⟩ := ih (i + 1) (wrap64 ((wrap64 (2 * p)) + x)) q1 s1 (by omega) (by omega) (by omega) (by omega)
    refine ⟨y, q2, s2, fun k hk => ?_, by omega, by omega⟩
    obtain ⟨k, rfl⟩ : ∃ j, k = j + 1 := ⟨k - 1, by omega⟩
    rw [spec_l1Cur_poly.l0, if_pos (by omega), e, Option.bind_some]
    simp only
    rw [wrap_id (x := i + 1) (by omega) (by omega)]
    exact e2 k (by omega)
theorem poFib_some : ∀ (d : Nat) (n a b : Int), n = d → d ≤ 1000 → ∃ r, ∀ k, d < k → spec_poFibonacci.l0 k n a b = some r := by
  intro d
  induction d with
  | zero =>
    intro n a b hn _
    refine ⟨b, fun k hk => ?_⟩
    obtain ⟨k, rfl⟩ : ∃ j, k = j + 1 := ⟨k - 1, by omega⟩
    rw [spec_poFibonacci.l0, if_neg (by omega)]
  | succ d ih =>
    intro n a b hn hd
    obtain ⟨r, e⟩ := ih (n - 1) b (Go.bits .xor .i64 (wrap64 (b * 2)) a) (by omega) (by omega)
    refine ⟨r, fun k hk => ?_⟩
    obtain ⟨k, rfl⟩ : ∃ j, k = j + 1 := ⟨k - 1, by omega⟩
    rw [spec_poFibonacci.l0, if_pos (by omega), wrap_id (x := n - 1) (by omega) (by omega)]
    exact e k (by omega)
/-- a polynomial is drawn, whatever it is -/
theorem poly_at {l : List Int} (h : By l) (q s m : Int) (hq : 0 ≤ q) (hq' : q < 700000) (hm : 0 ≤ m) (hm' : m ≤ 40) : ∃ x q' s', (∀ k, 100 < k → spec_l1Cur_poly.f k l q s m = some (x, q', s')) ∧ q ≤ q' ∧ q' ≤ q + 100 := by
  obtain ⟨x, q1, s1, e, h1, h2, h3, h4⟩ := pick_at h q s 12 hq (by omega) (by omega)
  have w : wrap64 (m + 1) = m + 1 := wrap_id (by omega) (by omega)
  by_cases c0 : x = 0
  · obtain ⟨y, q2, s2, e2, h5, h6, h7⟩ := among_at h q1 s1 [-1, 0, 1, 2, 2199023255551, 2199023255552, 4611686018427387904] (by omega) (by omega) (by simp)
    exact ⟨y, q2, s2, fun k hk => by unfold spec_l1Cur_poly.f; rw [e, Option.bind_some]; simp only [w]; rw [if_pos c0, e2]; rfl, by omega, by omega⟩
  · by_cases c1 : x = 1
    · obtain ⟨y, q2, s2, e2, h5, h6, h7, h8⟩ := pick_at h q1 s1 (m + 1) (by omega) (by omega) (by omega)
      obtain ⟨r, e3⟩ := poFib_some y.toNat y 1 0 (by omega) (by omega)
      refine ⟨r, q2, s2, fun k hk => ?_, by omega, by omega⟩
      unfold spec_l1Cur_poly.f
      rw [e, Option.bind_some]
      simp only [w]
      rw [if_neg c0, if_pos c1, e2, Option.bind_some]
      simp only
      unfold spec_poFibonacci.f
      rw [e3 k (by omega)]
      rfl
    · by_cases c2 : x = 2
      · obtain ⟨y, q2, s2, e2, h5, h6, h7, h8⟩ := pick_at h q1 s1 (m + 1) (by omega) (by omega) (by omega)
        exact ⟨_, q2, s2, fun k hk => by unfold spec_l1Cur_poly.f; rw [e, Option.bind_some]; simp only [w]; rw [if_neg c0, if_neg c1, if_pos c2, e2, Option.bind_some]; simp only; rw [if_pos h5], by omega, by omega⟩
      · obtain ⟨y, q2, s2, e2, h5, h6⟩ := poly_l0 h m hm' (m + 1).toNat 0 0 q1 s1 (by omega) (by omega) (by omega) (by omega)
        exact ⟨y, q2, s2, fun k hk => by unfold spec_l1Cur_poly.f; rw [e, Option.bind_some]; simp only [w]; rw [if_neg c0, if_neg c1, if_neg c2]; exact e2 k (by omega), by omega, by omega⟩
end Go.Proofs.YtigkmdlbijdoaaaGreatDoor.Dr
