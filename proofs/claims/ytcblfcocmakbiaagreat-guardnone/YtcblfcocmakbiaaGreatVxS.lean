/- Abstract values that are told in the same words. -/
import Derived.Test.YtcblfcocmakbiaaGreatVvRo
namespace Go.Vv
set_option linter.unusedVariables false
set_option linter.unusedSimpArgs false
open Go
mutual
def AV.same : AV → AV → Bool
  | .bool a, .bool b => a == b
  | .int k a, .int l b => decide (k = l) && decide (a = b)
  | .str a, .str b => decide (a = b)
  | .nilp, .nilp | .nilm, .nilm | .nilf, .nilf | .nili, .nili | .nilsl, .nilsl | .any, .any | .opq, .opq => true
  | .ptr i o, .ptr j p => decide (i = j) && decide (o = p)
  | .fptr a, .fptr b => sameL a b
  | .sl k a, .sl l b => decide (k = l) && sameLL a b
  | .osl q k a, .osl r l b => decide (q = r) && decide (k = l) && sameLL a b
  | .rsl i t k n, .rsl j u l m => decide (i = j) && decide (t = u) && decide (k = l) && decide (n = m)
  | .map i, .map j => decide (i = j)
  | .fn (.func f) a b, .fn (.func g) c d => decide (f = g) && sameL a c && sameL b d
  | .agg a, .agg b => sameL a b
  | .tup a, .tup b => sameL a b
  | .glob i, .glob j => decide (i = j)
  | .yld i, .yld j => decide (i = j)
  | .iface t a, .iface u b => decide (t = u) && a.same b
  | _, _ => false
def sameL : List AV → List AV → Bool
  | [], [] => true
  | a :: r, b :: s => a.same b && sameL r s
  | _, _ => false
def sameLL : List (List AV) → List (List AV) → Bool
  | [], [] => true
  | a :: r, b :: s => sameL a b && sameLL r s
  | _, _ => false
end
mutual
theorem AV.same_eq : ∀ {a b : AV}, a.same b = true → a = b
  | .bool a, b, h => by cases b <;> simp_all [AV.same]
  | .int k a, b, h => by cases b <;> simp_all [AV.same]
  | .str a, b, h => by cases b <;> simp_all [AV.same]
  | .nilp, b, h => by cases b <;> simp_all [AV.same]
  | .nilm, b, h => by cases b <;> simp_all [AV.same]
  | .nilf, b, h => by cases b <;> simp_all [AV.same]
  | .nili, b, h => by cases b <;> simp_all [AV.same]
  | .nilsl, b, h => by cases b <;> simp_all [AV.same]
  | .any, b, h => by cases b <;> simp_all [AV.same]
  | .ptr i o, b, h => by cases b <;> simp_all [AV.same]
  | .fptr x, b, h => by cases b <;> simp [AV.same] at h; rw [sameL_eq h]
  | .sl k x, b, h => by cases b <;> simp [AV.same] at h; rw [h.1, sameLL_eq h.2]
  | .osl q k x, b, h => by cases b <;> simp [AV.same] at h; rw [h.1.1, h.1.2, sameLL_eq h.2]
  | .rsl i t k n, b, h => by cases b <;> simp_all [AV.same]
  | .rptr i t k n p, b, h => by simp [AV.same] at h
  | .msl _ _ _ _, b, h => by simp [AV.same] at h
  | .map i, b, h => by cases b <;> simp_all [AV.same]
  | .fn f x y, b, h => by
    cases f with
    | func f =>
      cases b with
      | fn g c d =>
        cases g with
        | func g => simp [AV.same] at h; rw [h.1.1, sameL_eq h.1.2, sameL_eq h.2]
        | _ => simp [AV.same] at h
      | _ => simp [AV.same] at h
    | _ => cases b <;> simp [AV.same] at h
  | .iface t x, b, h => by cases b <;> simp [AV.same] at h; rw [h.1, AV.same_eq h.2]
  | .agg x, b, h => by cases b <;> simp [AV.same] at h; rw [sameL_eq h]
  | .tup x, b, h => by cases b <;> simp [AV.same] at h; rw [sameL_eq h]
  | .glob i, b, h => by cases b <;> simp_all [AV.same]
  | .opq, b, h => by cases b <;> simp_all [AV.same]
  | .yld i, b, h => by cases b <;> simp_all [AV.same]
theorem sameL_eq : ∀ {a b : List AV}, sameL a b = true → a = b
  | [], [], _ => rfl
  | a :: r, b :: s, h => by simp [sameL] at h; rw [AV.same_eq h.1, sameL_eq h.2]
  | [], _ :: _, h => by simp [sameL] at h
  | _ :: _, [], h => by simp [sameL] at h
theorem sameLL_eq : ∀ {a b : List (List AV)}, sameLL a b = true → a = b
  | [], [], _ => rfl
  | a :: r, b :: s, h => by simp [sameLL] at h; rw [sameL_eq h.1, sameLL_eq h.2]
  | [], _ :: _, h => by simp [sameLL] at h
  | _ :: _, [], h => by simp [sameLL] at h
end
def samePs : List (AV × AV) → List (AV × AV) → Bool
  | [], [] => true
  | a :: r, b :: s => a.1.same b.1 && a.2.same b.2 && samePs r s
  | _, _ => false
theorem samePs_eq : ∀ {a b : List (AV × AV)}, samePs a b = true → a = b
  | [], [], _ => rfl
  | (a, a') :: r, (b, b') :: s, h => by simp [samePs] at h; rw [AV.same_eq h.1.1, AV.same_eq h.1.2, samePs_eq h.2]
  | [], _ :: _, h => by simp [samePs] at h
  | _ :: _, [], h => by simp [samePs] at h
def Blk.same : Blk → Blk → Bool
  | .cells a, .cells b => sameL a b
  | .siter s p, .siter t q => decide (s = t) && decide (p = q)
  | .mapo a c, .mapo b d => samePs a b && decide (c = d)
  | .row t k a, .row u l b => decide (t = u) && decide (k = l) && sameLL a b
  | .miter a b c, .miter d e f => decide (a = d) && decide (b = e) && decide (c = f)
  | .miter0, .miter0 => true
  | .dead, .dead => true
  | _, _ => false
theorem Blk.same_eq {a b : Blk} (h : a.same b = true) : a = b := by
  cases a <;> cases b <;> simp [Blk.same] at h
  · rw [sameL_eq h]
  · rw [h.1, h.2]
  · rw [samePs_eq h.1, h.2]
  · rw [h.1.1, h.1.2, h.2]
  · rfl
  · rw [h.1.1, h.1.2, sameLL_eq h.2]
  · rfl
def sameBs : List Blk → List Blk → Bool
  | [], [] => true
  | a :: r, b :: s => a.same b && sameBs r s
  | _, _ => false
theorem sameBs_eq : ∀ {a b : List Blk}, sameBs a b = true → a = b
  | [], [], _ => rfl
  | a :: r, b :: s, h => by simp [sameBs] at h; rw [Blk.same_eq h.1, sameBs_eq h.2]
  | [], _ :: _, h => by simp [sameBs] at h
  | _ :: _, [], h => by simp [sameBs] at h
def AH.same (a b : AH) : Bool := sameBs a.blks b.blks && decide (a.toks = b.toks)
theorem AH.same_eq {a b : AH} (h : a.same b = true) : a = b := by
  cases a; cases b
  simp [AH.same] at h
  rw [sameBs_eq h.1, h.2]
#print axioms AH.same_eq
end Go.Vv
