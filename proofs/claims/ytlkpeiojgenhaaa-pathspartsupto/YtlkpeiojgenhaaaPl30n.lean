/- Layer 30: PathsNarrow. -/
import Derived.Test.YtlkpeiojgenhaaaPl30d
namespace Go.Vv
set_option linter.unusedVariables false
set_option linter.unusedSimpArgs false
open Go
theorem pathsSelect_is {t : List GNode} (h : Small t) {p : List Str} (hp : p.length ≤ maxLen) : pathsSelect t p = some (if (treeB 0 t && patB p) = true then (keepL (matchB p) [] t, 0) else ([], 2)) := by
  unfold pathsSelect
  rw [treeMay_is h, pathsMayPattern_is hp, keptAll_is (matchB p) _ (fun q => by unfold pathsSelectC1; rw [pathsMatch_is hp]; rfl) h]
  cases treeB 0 t <;> cases patB p <;> rfl
theorem pathsWithout_is {t : List GNode} (h : Small t) {p : List Str} (hp : p.length ≤ maxLen) : pathsWithout t p = some (if (treeB 0 t && patB p) = true then (keepL (fun q => !matchB p q) [] t, 0) else ([], 2)) := by
  unfold pathsWithout
  rw [treeMay_is h, pathsMayPattern_is hp, keptAll_is (fun q => !matchB p q) _ (fun q => by unfold pathsWithoutC1; rw [pathsMatch_is hp]; rfl) h]
  cases treeB 0 t <;> cases patB p <;> rfl
theorem law30Xknown_is : law30Xknown = some true := by
  unfold law30Xknown pathsText stringsJoin
  have l1 : ([[97], [42]] : List Str).length ≤ maxLen := by decide
  have l2 : ([[97], [42, 42]] : List Str).length ≤ maxLen := by decide
  have l3 : ([[42, 42]] : List Str).length ≤ maxLen := by decide
  simp only [pathsMatch_is l1, pathsMatch_is l2, pathsMatch_is l3, pathsMayPattern_is l1]
  have a1 : matchB [[97], [42]] [[97], [98]] = true := by decide
  have a2 : matchB [[97], [42]] [[97]] = false := by decide
  have a3 : matchB [[97], [42, 42]] [[97]] = true := by decide
  have a4 : matchB [[42, 42]] [[97], [98]] = true := by decide
  have a5 : patB [[97], [42]] = true := by decide
  have a6 : strJoin [[97], [42]] [47] = some [97, 47, 42] := by decide
  simp [chk, a1, a2, a3, a4, a5, a6]
theorem law30Xgreat_is (L : List (List Str)) : ∃ b, law30Xgreat L = some b := by
  unfold law30Xgreat
  rw [lp_all0 (r := true) (fun p : List Str => p.all (fun s => decide (s.length ≤ 40)) && decide (p.length ≤ 10))]
  · split
    · exact ⟨_, rfl⟩
    · exact ⟨_, rfl⟩
  · intro i x _
    rw [lp_all0 (r := Out.ret true) (fun s : Str => decide (s.length ≤ 40))]
    · have e : decide ((x.length : Int) > 10) = !decide (x.length ≤ 10) := by rw [Bool.eq_iff_iff]; simp; omega
      rw [e]
      cases x.all (fun s => decide (s.length ≤ 40)) <;> cases decide (x.length ≤ 10) <;> simp
    · intro j s _
      have e : decide ((s.length : Int) > 40) = !decide (s.length ≤ 40) := by rw [Bool.eq_iff_iff]; simp; omega
      rw [e]; cases decide (s.length ≤ 40) <;> simp
theorem law30PathsNarrow_is {t : List GNode} {p q : List Str} (h : Small t) (hp : p.length ≤ maxLen) (hq : q.length ≤ maxLen) : law30PathsNarrow t p q = some true := by
  unfold law30PathsNarrow
  obtain ⟨b1, e1⟩ := ref07Great_tot h
  obtain ⟨b2, e2⟩ := law30Xgreat_is [p, q]
  rw [e1, e2, law30Xknown_is]
  simp only [pathsMayPattern_is hp, pathsMayPattern_is hq, ref07May_is h, Option.bind_some]
  cases b1
  case true => simp
  cases b2
  case true => simp
  cases hpp : patB p
  case false => simp
  cases hqq : patB q
  case false => simp
  cases ht : treeB 0 t
  case false => simp
  have k1 := keep_may (matchB p) t 0 [] ht
  have k2 := keep_may (matchB q) t 0 [] ht
  have s1 := h.keep (matchB p) []
  have s2 := h.keep (matchB q) []
  have hc : (fun x => matchB p x && matchB q x) = (fun x => matchB q x && matchB p x) := by funext x; exact Bool.and_comm _ _
  have hkk : keepL (matchB p) [] (keepL (matchB q) [] t) = keepL (matchB q) [] (keepL (matchB p) [] t) := by rw [keep_keep, keep_keep, hc]
  have k3 := keep_may (matchB q) _ 0 [] k1
  have s3 := s1.keep (matchB q) []
  simp only [Bool.or_false, Bool.not_true, BEq.rfl, if_true, Option.bind_some, Bool.false_eq_true, if_false, pathsSelect_is h hp, pathsSelect_is h hq, ht, hpp, hqq, Bool.and_self, pathsSelect_is s1 hq, pathsSelect_is s2 hp, k1, k2, bne_self_eq_false, hkk, ref07Same_refl, pathsRows_is h, pathsRows_is s3, k3]
  have hrl := rows_len _ t [] (Nat.le_refl _)
  have hb := h.2
  rw [loop_keep (fun r : GRow => matchB p r.path && matchB q r.path) (fun r => r) (rowsL [] t) 0 [] (by simp [lim]; omega)]
  · simp only [lp_inr, List.nil_append, List.map_id_fun', id]
    have hr : rowsL [] (keepL (matchB q) [] (keepL (matchB p) [] t)) = (rowsL [] t).filter fun r => matchB p r.path && matchB q r.path := by
      rw [keep_rows, keep_rows, List.filter_filter]
      congr 1; funext r; exact Bool.and_comm _ _
    rw [hr, ref30Same_refl]; simp
  · intro i x s hx hs
    rw [pathsMatch_is hp, pathsMatch_is hq, chk_true (by simpa using hs)]
    cases matchB p x.path <;> cases matchB q x.path <;> simp
/-- As an argument is handed in. -/
theorem small_of {t : List GNode} (h : t.length ≤ maxLen ∧ ∀ y ∈ t, GNode.wf y) (hb : (t.map GNode.bk).sum ≤ 1048576) : Small t := ⟨(GNode.wfs_iff t).2 h.2, by rw [GNode.bks_eq]; exact hb⟩
theorem law30PathsNarrow_top (t : List GNode) (p q : List Str) (h1 : t.length ≤ maxLen ∧ ∀ y ∈ t, GNode.wf y) (h2 : p.length ≤ maxLen ∧ ∀ y ∈ p, y.length ≤ maxLen) (h3 : q.length ≤ maxLen ∧ ∀ y ∈ q, y.length ≤ maxLen)
    (hb : ((t.map GNode.bk).sum + 1) + ((p.map (fun s => s.length + 1)).sum + 1) + ((q.map (fun s => s.length + 1)).sum + 1) ≤ 1048576) : law30PathsNarrow t p q = some true :=
  law30PathsNarrow_is (small_of h1 (by omega)) h2.1 h3.1
end Go.Vv
