/- A law: what it is handed, as data; what it hands back. -/
import Derived.Test.YtpmkkfbnaohlhaaGiAb30
import Derived.ProofKit
import Derived.Below
import Derived.Carry
set_option linter.unusedVariables false
set_option linter.unusedSimpArgs false
set_option linter.unusedSectionVars false
namespace Go.Ab
open Go.ChangeShapes Go.WideShapes Go.ChangeAt Go.RowKit

/-! ### Types, their cells laid one behind the other -/
def layParts (f : TypeId → Option Ty) : Nat → List (Nat × TypeId) → Option Ty
  | _, [] => none
  | off, [x] => bif Nat.beq x.1 off then f x.2 else none
  | off, x :: y :: l => bif Nat.beq x.1 off then (match f x.2 with
    | some a => (match layParts f (off + a.size) (y :: l) with | some b => some (.pair a b) | none => none)
    | none => none) else none

def partsOf (P : Program) : TypeDesc → List (Nat × TypeId)
  | .struct fs => fs.toList.map fun f => (f.offset, f.type)
  | .array n e => (List.range n).map fun i => (i * P.cellsOf e, e)
  | _ => []

def layTy (P : Program) : Nat → TypeId → Option Ty
  | 0, _ => none
  | d + 1, t => match P.underlying t with
    | some (.int k) => bif Nat.beq (P.cellsOf t) 1 then some (.int k) else none
    | some .bool => bif Nat.beq (P.cellsOf t) 1 then some .bool else none
    | some (.slice e) => bif Nat.beq (P.cellsOf t) 1 then (match layTy P d e with | some a => some (.sl a) | none => none) else none
    | some x => match layParts (layTy P d) 0 (partsOf P x) with
      | some a => bif Nat.beq (P.cellsOf t) a.size then some a else none
      | none => none
    | none => none

/-- Each whole number is one of its kind. -/
def Wf : (t : Ty) → t.den → Prop
  | .int k, n => (Lit.int k n).wf = true
  | .bool, _ => True
  | .sl t, xs => xs.length ≤ maxLen ∧ ∀ i (h : i < xs.length), Wf t xs[i]
  | .pair a b, p => Wf a p.1 ∧ Wf b p.2

theorem layTy_size {P : Program} : ∀ {d : Nat} {t : TypeId} {ty : Ty}, layTy P d t = some ty → P.cellsOf t = ty.size
  | 0, _, _, h => by cases h
  | d + 1, t, ty, h => by
    unfold layTy at h
    split at h
    · obtain ⟨h1, h2⟩ := cond_some h; cases h2; exact Nat.eq_of_beq_eq_true h1
    · obtain ⟨h1, h2⟩ := cond_some h; cases h2; exact Nat.eq_of_beq_eq_true h1
    · obtain ⟨h1, h2⟩ := cond_some h
      split at h2
      · cases h2; exact Nat.eq_of_beq_eq_true h1
      · cases h2
    · split at h
      · obtain ⟨h1, h2⟩ := cond_some h; cases h2; simpa using h1
      · cases h
    · cases h

section
variable {H : Type} {enc : TypeId × Value → H} {P : Program} {w : World}

abbrev Below0 (w : World) : Nat → Prop := fun b => b < w.heap.size

theorem cells_get {a : Addr} {n : Nat} {cs : List Value} (h : w.cells? 0 a n = some cs) : cs.length = n ∧ ∀ i, i < n → ∃ v, cs[i]? = some v ∧ w.cell? (a.add i) = some v := by
  unfold World.cells? at h
  rw [if_pos (Nat.zero_le _)] at h
  have hl := mapM_some_length h
  have hg := mapM_some_get h
  simp at hl
  refine ⟨hl, fun i hi => ?_⟩
  have := hg i i (by simp [hi])
  have hlt : i < cs.length := by omega
  rw [List.getElem?_eq_getElem hlt] at this
  exact ⟨cs[i], List.getElem?_eq_getElem hlt, this⟩

theorem cell_at {a : Addr} {v : Value} (h : w.cell? a = some v) : a.spot = none ∧ a.block < w.heap.size ∧ hcell w.heap a.block a.off = some v := by
  unfold World.cell? at h
  cases hb : w.heap[a.block]? with
  | none => rw [hb] at h; cases h
  | some o =>
    rw [hb] at h
    cases o with
    | cells c e z =>
      dsimp only at h
      split at h
      · cases h
      · rename_i hs
        refine ⟨by simpa using hs, ?_, ?_⟩
        · exact (Array.getElem?_eq_some_iff.1 hb).1
        · unfold hcell; rw [hb]; exact h
    | _ => cases h

theorem choose_list {α : Type} {p : Nat → α → Prop} : ∀ (n : Nat), (∀ i, i < n → ∃ x, p i x) → ∃ xs : List α, xs.length = n ∧ ∀ i (h : i < xs.length), p i xs[i]
  | 0, _ => ⟨[], rfl, fun i h => absurd h (Nat.not_lt_zero i)⟩
  | n + 1, h => by
    obtain ⟨xs, h1, h2⟩ := choose_list n fun i hi => h i (by omega)
    obtain ⟨x, hx⟩ := h n (by omega)
    refine ⟨xs ++ [x], by simp [h1], fun i hi => ?_⟩
    by_cases hin : i < xs.length
    · rw [List.getElem_append_left hin]; exact h2 i hin
    · have : i = n := by simp at hi; omega
      subst this
      rw [List.getElem_append_right (by omega)]
      simp [h1]
      exact hx

/-- What reading a type's cells comes to. -/
def Reads (P : Program) (w : World) (ty : Ty) (cs : List Value) : Prop := ∃ x : ty.den, cs.length = ty.size ∧ ERep w.heap (Below0 w) ty x (fun j => cs[j]?) ∧ Wf ty x

theorem trod_parts {d : Nat} {fuel : Nat} (ih : ∀ (t : TypeId) (ty : Ty) (cs : List Value) (x : DataW H × List MemPlace), layTy P d t = some ty → DataW.trod enc P w 0 (fun _ => true) true fuel t cs = some x → Reads P w ty cs) :
    ∀ (l : List (Nat × TypeId)) (off : Nat) (ty : Ty) (cs : List Value) (out : List (DataW H × List MemPlace)), layParts (layTy P d) off l = some ty → off + ty.size ≤ cs.length →
      (l.mapM fun p => DataW.trod enc P w 0 (fun _ => true) true fuel p.2 ((cs.drop p.1).take (P.cellsOf p.2))) = some out → Reads P w ty ((cs.drop off).take ty.size)
  | [], off, ty, cs, out, h, _, _ => by cases h
  | [x], off, ty, cs, out, h, hc, hm => by
    obtain ⟨h1, h2⟩ := cond_some h
    have ho : x.1 = off := by simpa using h1
    simp only [List.mapM_cons, List.mapM_nil, Option.pure_def, Option.bind_eq_bind, Option.bind_eq_some_iff] at hm
    obtain ⟨y, hy, _⟩ := hm
    rw [ho, layTy_size h2] at hy
    exact ih _ _ _ _ h2 hy
  | x :: y :: l, off, ty, cs, out, h, hc, hm => by
    obtain ⟨h1, h2⟩ := cond_some h
    have ho : x.1 = off := by simpa using h1
    split at h2
    · rename_i a ha
      split at h2
      · rename_i b hb
        cases h2
        simp only [Ty.size] at hc ⊢
        rw [List.mapM_cons] at hm
        simp only [Option.pure_def, Option.bind_eq_bind, Option.bind_eq_some_iff] at hm
        obtain ⟨z, hz, zs, hzs, _⟩ := hm
        rw [ho, layTy_size ha] at hz
        obtain ⟨p, p1, p2, p3⟩ := ih _ _ _ _ ha hz
        obtain ⟨q, q1, q2, q3⟩ := trod_parts ih (y :: l) (off + a.size) b cs zs hb (by omega) hzs
        refine ⟨(p, q), by simp only [List.length_take, List.length_drop, Ty.size]; omega, ⟨?_, ?_⟩, p3, q3⟩
        · refine ERep_mono (fun _ h => h) (fun _ _ => rfl) a p _ _ (fun j hj => ?_) p2
          simp only [List.getElem?_take, List.getElem?_drop]
          rw [if_pos (by omega), if_pos hj]
        · refine ERep_mono (fun _ h => h) (fun _ _ => rfl) b q _ _ (fun j hj => ?_) q2
          simp only [List.getElem?_take, List.getElem?_drop]
          rw [if_pos (by omega), if_pos hj]
          congr 1; omega
      · cases h2
    · cases h2

theorem trod_reads : ∀ (d : Nat) (t : TypeId) (ty : Ty) (fuel : Nat) (cs : List Value) (x : DataW H × List MemPlace), layTy P d t = some ty → DataW.trod enc P w 0 (fun _ => true) true fuel t cs = some x → Reads P w ty cs
  | 0, _, _, _, _, _, h, _ => by cases h
  | d + 1, t, ty, 0, cs, x, _, h => by simp [DataW.trod] at h
  | d + 1, t, ty, fuel + 1, cs, x, hl, h => by
    unfold layTy at hl
    split at hl
    · rename_i k hu
      obtain ⟨_, hl⟩ := cond_some hl
      cases hl
      obtain ⟨n, rfl, _, hw⟩ := DataW.trod_int hu h
      exact ⟨n, rfl, rfl, hw⟩
    · rename_i hu
      obtain ⟨_, hl⟩ := cond_some hl
      cases hl
      obtain ⟨b, rfl, _⟩ := DataW.trod_bool hu h
      exact ⟨b, rfl, rfl, trivial⟩
    · rename_i e hu
      obtain ⟨_, hl⟩ := cond_some hl
      split at hl
      · rename_i a ha
        cases hl
        rcases DataW.trod_slice hu h with ⟨rfl, _⟩ | ⟨ad, len, cap, elems, rest, n, hn, rfl, _, _, hlc, hm, hel, hg, _, _⟩
        · refine ⟨([] : List a.den), rfl, ?_, ?_⟩
          · simp only [ERep]
            exact ⟨none, 0, 0, rfl, rfl, Nat.le_refl _, .inl ⟨trivial, fun _ => rfl⟩⟩
          · simp only [Wf]
            exact ⟨Nat.zero_le _, fun i hi => absurd hi (Nat.not_lt_zero i)⟩
        · have key : ∀ i, i < len → ∃ x : a.den, (ERep w.heap (Below0 w) a x (fun j => hcell w.heap ad.block (ad.off + i * a.size + j)) ∧ (i = 0 → ad.spot = none) ∧ ad.block < w.heap.size) ∧ Wf a x := by
            intro i hi
            have h1 := hg i hi
            have hil : i < elems.length := by omega
            rw [List.getElem?_eq_getElem hil, Option.bind_eq_some_iff] at h1
            obtain ⟨cs, hcs, htr⟩ := h1
            rw [layTy_size ha] at hcs
            obtain ⟨y, y1, y2, y3⟩ := trod_reads d e a n cs _ ha htr
            obtain ⟨c1, c2⟩ := cells_get hcs
            have addb : ∀ j, ((ad.add (i * a.size)).add j).block = ad.block ∧ ((ad.add (i * a.size)).add j).off = ad.off + i * a.size + j := by
              intro j
              unfold Addr.add
              constructor
              · split <;> split <;> rfl
              · split <;> split <;> simp_all
            have at0 : (i = 0 → ad.spot = none) ∧ ad.block < w.heap.size := by
              obtain ⟨v, _, hv⟩ := c2 0 a.size_pos
              have h1 := cell_at hv
              refine ⟨fun h0 => ?_, by have := h1.2.1; rwa [(addb 0).1] at this⟩
              have h2 := h1.1
              subst h0
              simpa [Addr.add] using h2
            refine ⟨y, ⟨ERep_mono (fun _ h => h) (fun _ _ => rfl) a y _ _ (fun j hj => ?_) y2, at0⟩, y3⟩
            obtain ⟨v, v1, v2⟩ := c2 j hj
            rw [v1]
            have h1 := (cell_at v2).2.2
            rwa [(addb j).1, (addb j).2] at h1
          obtain ⟨xs, x1, x2⟩ := choose_list len key
          refine ⟨xs, rfl, ?_, ?_⟩
          · simp only [ERep]
            refine ⟨some ad, len, cap, rfl, x1.symm, hlc, ?_⟩
            by_cases h0 : xs = []
            · exact .inl ⟨h0, fun h => by cases h⟩
            · refine .inr ⟨ad.block, ad.off, ?_, ?_, fun i hi => (x2 i hi).1.1⟩
              · have := (x2 0 (List.length_pos_iff.2 h0)).1.2.1 rfl
                cases ad
                simp at this
                rw [this]
              · exact (x2 0 (List.length_pos_iff.2 h0)).1.2.2
          · simp only [Wf]
            exact ⟨by omega, fun i hi => (x2 i hi).2⟩
      · cases hl
    · rename_i y n1 n2 n3 hu
      split at hl
      · rename_i a ha
        obtain ⟨hsz, hl⟩ := cond_some hl
        cases hl
        have hsz : P.cellsOf t = ty.size := by simpa using hsz
        have fin : ∀ out, cs.length = P.cellsOf t → ((partsOf P y).mapM fun p => DataW.trod enc P w 0 (fun _ => true) true fuel p.2 ((cs.drop p.1).take (P.cellsOf p.2))) = some out → Reads P w ty cs := by
          intro out hlen hmap
          have := trod_parts (fun t' ty' cs' x' h1 h2 => trod_reads d t' ty' fuel cs' x' h1 h2) (partsOf P y) 0 ty cs out ha (by omega) hmap
          rwa [List.drop_zero, List.take_of_length_le (by omega)] at this
        unfold DataW.trod at h
        rw [hu] at h
        cases y with
        | struct fs =>
          dsimp only at h
          split at h
          · rename_i hlen
            rw [Option.map_eq_some_iff] at h
            obtain ⟨out, ho, _⟩ := h
            refine fin out hlen ?_
            simp only [partsOf, List.mapM_map]
            exact ho
          · cases h
        | array n e =>
          dsimp only at h
          split at h
          · rename_i hlen
            rw [Option.map_eq_some_iff] at h
            obtain ⟨out, ho, _⟩ := h
            refine fin out hlen ?_
            simp only [partsOf, List.mapM_map]
            exact ho
          · cases h
        | _ => simp [partsOf, layParts] at ha
      · cases hl
    · cases hl
end
end Go.Ab
