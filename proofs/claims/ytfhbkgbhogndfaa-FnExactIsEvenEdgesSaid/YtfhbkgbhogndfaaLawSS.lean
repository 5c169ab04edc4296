/- What the laws' helpers on graphs and on rows of rows answer. -/
import Derived.Test.YtfhbkgbhogndfaaBits
import Derived.Test.YtfhbkgbhogndfaaRd
import Derived.Test.YtfhbkgbhogndfaaPx1
import Derived.Test.YtfhbkgbhogndfaaPx3
namespace Go.Proofs.Ytfhbkgbhogndfaa.Lw
open Go.RowKit Go.Proofs.Ytfhbkgbhogndfaa.P Go.Proofs.YtfhbkgbhogndfaaW.PrintWords Go.Proofs.YtfhbkgbhogndfaaW.PrintLast Go.Proofs.YtfhbkgbhogndfaaW.PrintMore
set_option linter.unusedVariables false
set_option linter.unusedSimpArgs false
theorem set_take (l : List Int) (n i : Nat) (hn : l.length = n) (h : i < n) : (l.take i ++ List.replicate (n - i) 0).set i (l.getD i 0) = l.take (i + 1) ++ List.replicate (n - (i + 1)) 0 := by
  obtain ⟨m, hm⟩ : ∃ m, n - i = m + 1 := ⟨n - i - 1, by omega⟩
  have h1 : (l.take i).length = i := by rw [List.length_take]; omega
  rw [List.set_append_right _ _ (by omega), h1, Nat.sub_self, hm, List.replicate_succ, List.set_cons_zero, show n - (i + 1) = m by omega, List.take_succ_eq_append_getElem (by omega), List.append_assoc, List.getD_eq_getElem?_getD, List.getElem?_eq_getElem (by omega)]
  rfl
theorem eqIntS_l0 (l : List Int) (hl : l.length ≤ 4611686018427387904) : ∀ (d i k : Nat), l.length - i = d → i ≤ l.length → d < k → laws_eqIntS.l0 k l l (i : Int) = some true := by
  intro d
  induction d with
  | zero =>
    intro i k hd hi hk
    obtain ⟨k, rfl⟩ : ∃ m, k = m + 1 := ⟨k - 1, by omega⟩
    rw [laws_eqIntS.l0, if_neg (by omega)]
  | succ d ih =>
    intro i k hd hi hk
    obtain ⟨k, rfl⟩ : ∃ m, k = m + 1 := ⟨k - 1, by omega⟩
    rw [laws_eqIntS.l0, if_pos (by omega), if_pos (by omega), if_pos (by omega), if_pos rfl, wrap_id (by omega) (by omega), show ((i : Int) + 1) = ((i + 1 : Nat) : Int) from by omega]
    exact ih (i + 1) k (by omega) (by omega) (by omega)
theorem eqIntS_ev (l : List Int) (hl : l.length ≤ 4611686018427387904) : Ev (fun k => laws_eqIntS.f k l l) true := by
  refine ⟨l.length + 1, fun k hk => ?_⟩
  show laws_eqIntS.f k l l = _
  unfold laws_eqIntS.f
  rw [if_pos rfl]
  exact eqIntS_l0 l hl l.length 0 k (by omega) (by omega) (by omega)
theorem toIntS_l0 (l : List Int) (hl : l.length ≤ 35184372088832) : ∀ (d i k : Nat), l.length - i = d → i ≤ l.length → d < k →
    laws_toIntS.l0 k l (l.take i ++ List.replicate (l.length - i) 0) (i : Int) = some l := by
  intro d
  induction d with
  | zero =>
    intro i k hd hi hk
    obtain ⟨k, rfl⟩ : ∃ m, k = m + 1 := ⟨k - 1, by omega⟩
    have : i = l.length := by omega
    subst this
    rw [laws_toIntS.l0, if_neg (by omega)]
    simp
  | succ d ih =>
    intro i k hd hi hk
    obtain ⟨k, rfl⟩ : ∃ m, k = m + 1 := ⟨k - 1, by omega⟩
    rw [laws_toIntS.l0, if_pos (by omega), if_pos (by omega), if_pos (by simp; omega), rd_nat, Int.toNat_natCast, set_take l l.length i rfl (by omega)]
    rw [show ((i : Int) + 1) = ((i + 1 : Nat) : Int) from by omega, wrap_id (by omega) (by omega)]
    exact ih (i + 1) k (by omega) (by omega) (by omega)
theorem toIntS_ev (l : List Int) (hl : l.length ≤ 35184372088832) : Ev (fun k => laws_toIntS.f k l) l := by
  refine ⟨l.length + 1, fun k hk => ?_⟩
  show laws_toIntS.f k l = _
  unfold laws_toIntS.f
  rw [if_pos (by omega), if_pos (by simpa using hl)]
  have := toIntS_l0 l hl l.length 0 k (by omega) (by omega) (by omega)
  simpa using this
theorem eqGraph_ev (l : List Int) (b : Bool) (hl : l.length ≤ 4611686018427387904) : Ev (fun k => laws_eqGraph.f k l b l b) true := by
  obtain ⟨K, h⟩ := eqIntS_ev l hl
  refine ⟨K, fun k hk => ?_⟩
  show laws_eqGraph.f k l b l b = _
  unfold laws_eqGraph.f
  have := h k hk
  simp only at this
  rw [this]
  simp
theorem rdL1_at (xs : List (List Int)) {i : Nat} (h : i < xs.length) : rd_L1 xs (i : Int) = xs[i] := by simp [rd_L1, h]
theorem stepE {i : Nat} (h : i < 9223372036854775806) : wrap64 ((i : Int) + 1) = ((i + 1 : Nat) : Int) := by rw [wrap_id (by omega) (by omega)]; omega
theorem eqSS_l0 (xs : List (List Int)) (hl : xs.length ≤ 4611686018427387904) (hs : ∀ x ∈ xs, x.length ≤ 4611686018427387904) : ∀ (d i : Nat), i + d = xs.length → Ev (fun k => laws_eqIntSS.l0 k xs xs (i : Int)) true
  | 0, i, hi => ⟨1, fun k hk => by
    obtain ⟨k, rfl⟩ : ∃ m, k = m + 1 := ⟨k - 1, by omega⟩
    show laws_eqIntSS.l0 (k + 1) xs xs (i : Int) = _
    rw [laws_eqIntSS.l0, if_neg (by omega)]⟩
  | d + 1, i, hi => by
    have hlt : i < xs.length := by omega
    obtain ⟨K1, e1⟩ := eqIntS_ev xs[i] (hs _ (List.getElem_mem hlt))
    obtain ⟨K2, e2⟩ := eqSS_l0 xs hl hs d (i + 1) (by omega)
    refine ⟨K1 + K2 + 1, fun k hk => ?_⟩
    obtain ⟨k, rfl⟩ : ∃ m, k = m + 1 := ⟨k - 1, by omega⟩
    simp only at e1 e2
    show laws_eqIntSS.l0 (k + 1) xs xs (i : Int) = _
    rw [laws_eqIntSS.l0, if_pos (by omega), if_pos (by omega), if_pos (by omega), rdL1_at xs hlt, e1 k (by omega)]
    simp only [Option.bind_some, if_true]
    rw [stepE (by omega)]
    exact e2 k (by omega)
theorem eqSS_ev (xs : List (List Int)) (hl : xs.length ≤ 4611686018427387904) (hs : ∀ x ∈ xs, x.length ≤ 4611686018427387904) : Ev (fun k => laws_eqIntSS.f k xs xs) true := by
  obtain ⟨K, e⟩ := eqSS_l0 xs hl hs xs.length 0 (by omega)
  refine ⟨K, fun k hk => ?_⟩
  simp only at e
  show laws_eqIntSS.f k xs xs = _
  unfold laws_eqIntSS.f
  rw [if_pos rfl]
  exact e k hk
theorem set_takeS (l : List (List Int)) (n i : Nat) (hn : l.length = n) (h : i < n) : (l.take i ++ List.replicate (n - i) []).set i (l[i]'(by omega)) = l.take (i + 1) ++ List.replicate (n - (i + 1)) [] := by
  obtain ⟨m, hm⟩ : ∃ m, n - i = m + 1 := ⟨n - i - 1, by omega⟩
  have h1 : (l.take i).length = i := by rw [List.length_take]; omega
  rw [List.set_append_right _ _ (by omega), h1, Nat.sub_self, hm, List.replicate_succ, List.set_cons_zero, show n - (i + 1) = m by omega, List.take_succ_eq_append_getElem (by omega), List.append_assoc]
  rfl
theorem toSS_l0 (xs : List (List Int)) (hl : xs.length ≤ 11728124029610) (hs : ∀ x ∈ xs, x.length ≤ 35184372088832) : ∀ (d i : Nat), i + d = xs.length → Ev (fun k => laws_toIntSS.l0 k xs (xs.take i ++ List.replicate (xs.length - i) []) (i : Int)) xs
  | 0, i, hi => ⟨1, fun k hk => by
    obtain ⟨k, rfl⟩ : ∃ m, k = m + 1 := ⟨k - 1, by omega⟩
    have : i = xs.length := by omega
    subst this
    show laws_toIntSS.l0 (k + 1) xs _ _ = _
    rw [laws_toIntSS.l0, if_neg (by omega)]
    simp⟩
  | d + 1, i, hi => by
    have hlt : i < xs.length := by omega
    obtain ⟨K1, e1⟩ := toIntS_ev xs[i] (hs _ (List.getElem_mem hlt))
    obtain ⟨K2, e2⟩ := toSS_l0 xs hl hs d (i + 1) (by omega)
    refine ⟨K1 + K2 + 1, fun k hk => ?_⟩
    obtain ⟨k, rfl⟩ : ∃ m, k = m + 1 := ⟨k - 1, by omega⟩
    simp only at e1 e2
    show laws_toIntSS.l0 (k + 1) xs _ (i : Int) = _
    rw [laws_toIntSS.l0, if_pos (by omega), if_pos (by omega), rdL1_at xs hlt, e1 k (by omega)]
    simp only [Option.bind_some]
    rw [if_pos (by simp only [List.length_append, List.length_take, List.length_replicate]; omega), Int.toNat_natCast, set_takeS xs xs.length i rfl hlt, stepE (by omega)]
    exact e2 k (by omega)
theorem toSS_ev (xs : List (List Int)) (hl : xs.length ≤ 11728124029610) (hs : ∀ x ∈ xs, x.length ≤ 35184372088832) : Ev (fun k => laws_toIntSS.f k xs) xs := by
  obtain ⟨K, e⟩ := toSS_l0 xs hl hs xs.length 0 (by omega)
  refine ⟨K, fun k hk => ?_⟩
  simp only at e
  show laws_toIntSS.f k xs = _
  unfold laws_toIntSS.f
  rw [if_pos (by omega), if_pos (by simpa using hl)]
  have := e k hk
  simpa using this
theorem szS (l : List Int) (a : Int) (h0 : 0 ≤ a) (h1 : a ≤ 1048576) (hl : l.length ≤ 9223372036854775807) : laws_szIntS.f l a = some (if (l.length : Int) ≤ a then a - l.length else -1) := by
  unfold laws_szIntS.f
  rw [wrap_id (by omega) (by omega)]
  by_cases c : (l.length : Int) ≤ a
  · rw [if_neg (by omega), if_pos c]
  · rw [if_pos (by omega), if_neg c]
theorem szSS_l0 (xs : List (List Int)) (hl : xs.length ≤ 1048576) (hs : ∀ x ∈ xs, x.length ≤ 9223372036854775807) : ∀ (d i : Nat), i + d = xs.length → ∀ a : Int, 0 ≤ a → a ≤ 1048576 →
    ∃ r : Int, Ev (fun k => laws_szIntSS.l0 k xs a (i : Int)) r ∧ (0 ≤ r → ∀ x ∈ xs.drop i, x.length ≤ 1048576)
  | 0, i, hi, a, _, _ => ⟨a, ⟨1, fun k hk => by
    obtain ⟨k, rfl⟩ : ∃ m, k = m + 1 := ⟨k - 1, by omega⟩
    show laws_szIntSS.l0 (k + 1) xs a (i : Int) = _
    rw [laws_szIntSS.l0, if_neg (by omega)]⟩, fun _ x hx => by rw [List.drop_eq_nil_of_le (by omega)] at hx; cases hx⟩
  | d + 1, i, hi, a, h0, h1 => by
    have hlt : i < xs.length := by omega
    have hz := szS xs[i] a h0 h1 (hs _ (List.getElem_mem hlt))
    by_cases c : (xs[i].length : Int) ≤ a
    · rw [if_pos c] at hz
      obtain ⟨r, ⟨K, e⟩, hr⟩ := szSS_l0 xs hl hs d (i + 1) (by omega) (a - xs[i].length) (by omega) (by omega)
      refine ⟨r, ⟨K + 1, fun k hk => ?_⟩, fun h x hx => ?_⟩
      · obtain ⟨k, rfl⟩ : ∃ m, k = m + 1 := ⟨k - 1, by omega⟩
        simp only at e
        show laws_szIntSS.l0 (k + 1) xs a (i : Int) = _
        rw [laws_szIntSS.l0, if_pos (by omega), if_pos (by omega), rdL1_at xs hlt, hz]
        simp only [Option.bind_some]
        rw [if_neg (by omega), stepE (by omega)]
        exact e k (by omega)
      · rw [List.drop_eq_getElem_cons hlt] at hx
        rcases List.mem_cons.1 hx with rfl | hx
        · omega
        · exact hr h x hx
    · rw [if_neg c] at hz
      refine ⟨-1, ⟨1, fun k hk => ?_⟩, fun h => by omega⟩
      obtain ⟨k, rfl⟩ : ∃ m, k = m + 1 := ⟨k - 1, by omega⟩
      show laws_szIntSS.l0 (k + 1) xs a (i : Int) = _
      rw [laws_szIntSS.l0, if_pos (by omega), if_pos (by omega), rdL1_at xs hlt, hz]
      simp only [Option.bind_some]
      rw [if_pos (by omega)]
theorem szSS_ev (xs : List (List Int)) (hm : xs.length ≤ 9223372036854775807) (hs : ∀ x ∈ xs, x.length ≤ 9223372036854775807) (a : Int) (h0 : 0 ≤ a) (h1 : a ≤ 1048576) :
    ∃ r : Int, Ev (fun k => laws_szIntSS.f k xs a) r ∧ (0 ≤ r → xs.length ≤ 1048576 ∧ ∀ x ∈ xs, x.length ≤ 1048576) := by
  have hw : wrap64 (a - (xs.length : Int)) = a - (xs.length : Int) := wrap_id (by omega) (by omega)
  by_cases c : (xs.length : Int) ≤ a
  · obtain ⟨r, ⟨K, e⟩, hr⟩ := szSS_l0 xs (by omega) hs xs.length 0 (by omega) (a - xs.length) (by omega) (by omega)
    refine ⟨r, ⟨K, fun k hk => ?_⟩, fun h => ⟨by omega, fun x hx => hr h x (by simpa using hx)⟩⟩
    simp only at e
    show laws_szIntSS.f k xs a = _
    unfold laws_szIntSS.f
    rw [hw, if_neg (by omega)]
    exact e k hk
  · refine ⟨-1, ⟨0, fun k _ => ?_⟩, fun h => by omega⟩
    show laws_szIntSS.f k xs a = _
    unfold laws_szIntSS.f
    rw [hw, if_pos (by omega)]
end Go.Proofs.Ytfhbkgbhogndfaa.Lw
namespace Go.Proofs.Ytfhbkgbhogndfaa.Gr
open Go.RowKit Go.Proofs.Ytfhbkgbhogndfaa.P Go.Proofs.Ytfhbkgbhogndfaa.Bt Go.Proofs.Ytfhbkgbhogndfaa.Lw Go.Proofs.YtfhbkgbhogndfaaW.PrintWords Go.Proofs.YtfhbkgbhogndfaaW.PrintLast Go.Proofs.YtfhbkgbhogndfaaW.PrintMore
set_option linter.unusedVariables false
set_option linter.unusedSimpArgs false
theorem toGraph_ev (l : List Int) (b : Bool) (hl : l.length ≤ 35184372088832) : Ev (fun k => laws_toGraph.f k l b) (l, b) := by
  obtain ⟨K, h⟩ := toIntS_ev l hl
  refine ⟨K, fun k hk => ?_⟩
  show laws_toGraph.f k l b = _
  unfold laws_toGraph.f
  have := h k hk
  simp only at this
  rw [this]; rfl
theorem szGraph_small (l : List Int) (b : Bool) (h : l.length ≤ 1048576) : laws_szGraph.f l b 1048576 = some (1048576 - (l.length : Int)) := by
  unfold laws_szGraph.f laws_szIntS.f
  rw [Bt.wrap_id (by omega) (by omega), if_neg (by omega)]
  simp only [Option.bind_some]
  rw [if_neg (by omega)]
theorem szGraph_big (l : List Int) (b : Bool) (hl : l.length ≤ 9223372036854775807) (h : ¬ l.length ≤ 1048576) : laws_szGraph.f l b 1048576 = some (-1) := by
  unfold laws_szGraph.f laws_szIntS.f
  rw [Bt.wrap_id (by omega) (by omega), if_pos (by omega)]
  rfl
end Go.Proofs.Ytfhbkgbhogndfaa.Gr
