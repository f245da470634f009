/- What the values and objects of the abstract machine stand for in GoSem's memory; the steps that memory may take. -/
import Derived.Test.YtpmkkfbnaohlhaaGiAb0

set_option linter.unusedVariables false
namespace Go.Ab

/-- A value of one cell. -/
def _root_.Go.Value.one1 : Value → Bool
  | .agg _ | .tuple _ => false
  | _ => true

def hcell (H : Array Go.Obj) (B o : Nat) : Option Value := match H[B]? with
  | some (.cells c _ _) => c[o]?
  | _ => none
def bsize (H : Array Go.Obj) (B : Nat) : Nat := match H[B]? with
  | some (.cells c _ _) => c.size
  | _ => 0

theorem cell_hcell (w : World) (B o : Nat) : w.cell? ⟨B, o, none⟩ = hcell w.heap B o := by
  simp only [World.cell?, hcell]
  cases w.heap[B]? with
  | none => rfl
  | some x => cases x <;> rfl
theorem hcell_congr {H H' : Array Go.Obj} {B : Nat} (h : H'[B]? = H[B]?) (o : Nat) : hcell H' B o = hcell H B o := by unfold hcell; rw [h]
theorem bsize_congr {H H' : Array Go.Obj} {B : Nat} (h : H'[B]? = H[B]?) : bsize H' B = bsize H B := by unfold bsize; rw [h]

/-! ### Data in memory that nobody writes -/
def ERep (H : Array Go.Obj) (F : Nat → Prop) : (t : Ty) → t.den → (Nat → Option Value) → Prop
  | .int k, n, rd => rd 0 = some (.int k n)
  | .bool, b, rd => rd 0 = some (.bool b)
  | .sl t, xs, rd => ∃ A n c, rd 0 = some (.slice A n c) ∧ n = xs.length ∧ n ≤ c ∧
      ((xs = [] ∧ (A = none → c = 0)) ∨ ∃ B o, A = some ⟨B, o, none⟩ ∧ F B ∧ ∀ i (h : i < xs.length), ERep H F t xs[i] (fun j => hcell H B (o + i * t.size + j)))
  | .pair a b, p, rd => ERep H F a p.1 rd ∧ ERep H F b p.2 (fun j => rd (j + a.size))

theorem ERep_mono {H H' : Array Go.Obj} {F F' : Nat → Prop} (hF : ∀ b, F b → F' b) (hs : ∀ b, F b → H'[b]? = H[b]?) :
    ∀ (t : Ty) (x : t.den) (rd rd' : Nat → Option Value), (∀ j, j < t.size → rd' j = rd j) → ERep H F t x rd → ERep H' F' t x rd'
  | .int k, n, rd, rd', hr, h => by simp only [ERep] at h ⊢; rw [hr 0 (by simp [Ty.size])]; exact h
  | .bool, n, rd, rd', hr, h => by simp only [ERep] at h ⊢; rw [hr 0 (by simp [Ty.size])]; exact h
  | .sl t, xs, rd, rd', hr, h => by
    simp only [ERep] at h ⊢
    obtain ⟨A, n, c, h1, h2, h3, h4⟩ := h
    refine ⟨A, n, c, by rw [hr 0 (by simp [Ty.size])]; exact h1, h2, h3, ?_⟩
    rcases h4 with h4 | ⟨B, o, e, hB, h4⟩
    · exact .inl h4
    · exact .inr ⟨B, o, e, hF B hB, fun i hi => ERep_mono hF hs t _ _ _ (fun j _ => hcell_congr (hs B hB) _) (h4 i hi)⟩
  | .pair a b, p, rd, rd', hr, h => by
    simp only [ERep] at h ⊢
    exact ⟨ERep_mono hF hs a _ _ _ (fun j hj => hr j (by simp only [Ty.size]; omega)) h.1,
      ERep_mono hF hs b _ _ _ (fun j hj => hr _ (by simp only [Ty.size]; omega)) h.2⟩

theorem Ty.size_pos : ∀ t : Ty, 0 < t.size
  | .int _ | .bool | .sl _ => by simp [Ty.size]
  | .pair a b => by have := Ty.size_pos a; simp only [Ty.size]; omega

/-! ### Where objects lie -/
structure Conc where
  blk : Option Nat
  len : Nat
  sz : Nat
  ver : Nat
  rows : List (Option Nat × Nat)

def Conc.fp (C : Conc) : List Nat := C.blk.toList ++ C.rows.filterMap (·.1)

structure Conc.le (C C' : Conc) : Prop where
  blk : C'.blk = C.blk
  len : C'.len = C.len
  sz : C'.sz = C.sz
  ver : C.ver ≤ C'.ver
  rows : C'.ver = C.ver → C'.rows = C.rows

theorem Conc.le_refl (C : Conc) : C.le C := ⟨rfl, rfl, rfl, Nat.le_refl _, fun _ => rfl⟩
theorem Conc.le_trans {A B C : Conc} (h : A.le B) (k : B.le C) : A.le C :=
  ⟨k.blk.trans h.blk, k.len.trans h.len, k.sz.trans h.sz, Nat.le_trans h.ver k.ver, fun e => by
    have := h.ver; have := k.ver
    rw [k.rows (by omega), h.rows (by omega)]⟩

/-- The abstract machine's memory beside GoSem's: where each object lies; what is not written while the call runs; what may be kept. -/
structure Mst where
  κ : Nat → Option Conc
  F : Nat → Prop
  G : Nat → Prop
  h : Hp
  H : Array Go.Obj

def All2 {α β : Type} (R : α → β → Prop) : List α → List β → Prop
  | [], [] => True
  | a :: l, b :: m => R a b ∧ All2 R l m
  | _, _ => False

theorem All2.mono {α β : Type} {R S : α → β → Prop} (h : ∀ a b, R a b → S a b) : ∀ {l : List α} {m : List β}, All2 R l m → All2 S l m
  | [], [], _ => trivial
  | _ :: _, _ :: _, hh => ⟨h _ _ hh.1, All2.mono h hh.2⟩
  | [], _ :: _, hh => hh.elim
  | _ :: _, [], hh => hh.elim
theorem All2.length {α β : Type} {R : α → β → Prop} : ∀ {l : List α} {m : List β}, All2 R l m → l.length = m.length
  | [], [], _ => rfl
  | _ :: _, _ :: _, hh => by simp [All2.length hh.2]
  | [], _ :: _, hh => hh.elim
  | _ :: _, [], hh => hh.elim
theorem All2.get {α β : Type} {R : α → β → Prop} : ∀ {l : List α} {m : List β}, All2 R l m → ∀ (i : Nat) (h : i < l.length) (h' : i < m.length), R l[i] m[i]
  | _ :: _, _ :: _, hh, 0, _, _ => hh.1
  | _ :: _, _ :: _, hh, i + 1, h, h' => All2.get hh.2 i (by simpa using h) (by simpa using h')
  | [], [], _, _, h, _ => by simp at h
  | [], _ :: _, hh, _, _, _ => hh.elim
  | _ :: _, [], hh, _, _, _ => hh.elim
theorem All2.of_get {α β : Type} {R : α → β → Prop} : ∀ {l : List α} {m : List β}, l.length = m.length → (∀ (i : Nat) (h : i < l.length) (h' : i < m.length), R l[i] m[i]) → All2 R l m
  | [], [], _, _ => trivial
  | a :: l, b :: m, hl, h => ⟨h 0 (by simp) (by simp), All2.of_get (by simpa using hl) fun i h1 h2 => h (i + 1) (by simpa using h1) (by simpa using h2)⟩
  | [], _ :: _, hl, _ => by simp at hl
  | _ :: _, [], hl, _ => by simp at hl
theorem All2.append {α β : Type} {R : α → β → Prop} : ∀ {l l' : List α} {m m' : List β}, All2 R l m → All2 R l' m' → All2 R (l ++ l') (m ++ m')
  | [], _, [], _, _, k => k
  | _ :: _, _, _ :: _, _, h, k => ⟨h.1, All2.append h.2 k⟩
  | [], _, _ :: _, _, hh, _ => hh.elim
  | _ :: _, _, [], _, hh, _ => hh.elim
theorem All2.drop {α β : Type} {R : α → β → Prop} : ∀ (n : Nat) {l : List α} {m : List β}, All2 R l m → All2 R (l.drop n) (m.drop n)
  | 0, _, _, h => h
  | n + 1, [], [], _ => trivial
  | n + 1, _ :: _, _ :: _, h => All2.drop n h.2
  | n + 1, [], _ :: _, hh => hh.elim
  | n + 1, _ :: _, [], hh => hh.elim
theorem All2.take {α β : Type} {R : α → β → Prop} : ∀ (n : Nat) {l : List α} {m : List β}, All2 R l m → All2 R (l.take n) (m.take n)
  | 0, _, _, _ => by simp [All2]
  | n + 1, [], [], _ => trivial
  | n + 1, _ :: _, _ :: _, h => ⟨h.1, All2.take n h.2⟩
  | n + 1, [], _ :: _, hh => hh.elim
  | n + 1, _ :: _, [], hh => hh.elim
theorem All2.set {α β : Type} {R : α → β → Prop} {a : α} {b : β} (hab : R a b) : ∀ (n : Nat) {l : List α} {m : List β}, All2 R l m → All2 R (l.set n a) (m.set n b)
  | _, [], [], _ => trivial
  | 0, _ :: _, _ :: _, h => ⟨hab, h.2⟩
  | n + 1, _ :: _, _ :: _, h => ⟨h.1, All2.set hab n h.2⟩
  | _, [], _ :: _, hh => hh.elim
  | _, _ :: _, [], hh => hh.elim

/-! ### Values -/
/-- A slice value over an object: n elements from lo on. -/
def SlV (H : Array Go.Obj) (C : Conc) (lo n : Nat) (v : Value) : Prop := ∃ A c, v = .slice A n c ∧ match C.blk with
  | none => A = none ∧ n = 0 ∧ c = 0
  | some B => n ≤ c ∧ ∃ a, A = some ⟨B, a, none⟩ ∧ (c = 0 ∨ a = lo * C.sz) ∧ (lo + c) * C.sz ≤ bsize H B

def RowV (H : Array Go.Obj) (rb : Option Nat) (n : Nat) (v : Value) : Prop := match rb with
  | none => v = .slice none 0 0 ∧ n = 0
  | some B => ∃ a c, v = .slice (some ⟨B, a, none⟩) n c ∧ n ≤ c ∧ (c = 0 ∨ a = 0) ∧ c ≤ bsize H B

/-- There is room up to the end of the object. -/
def CapV (C : Conc) (lo : Nat) (v : Value) : Prop := ∃ A n c, v = .slice A n c ∧ C.len ≤ lo + c

def CRep (M : Mst) : CVal → Value → Prop
  | .undef, v => v.one1 = true
  | .int k n, v => v = .int k n
  | .bool b, v => v = .bool b
  | .fsl sh t xs, v => ERep M.H (bif sh then M.G else M.F) (.sl t) xs (fun _ => some v)
  | .nsl, v => v = .slice none 0 0
  | .nfl sh t xs, v => (∃ a n c, v = .slice (some a) n c) ∧ ERep M.H (bif sh then M.G else M.F) (.sl t) xs (fun _ => some v)
  | .osl id r, v => ∃ C, M.κ id = some C ∧ match r with
    | none => SlV M.H C 0 C.len v
    | some (lo, n) => lo + n ≤ C.len ∧ SlV M.H C lo n v ∧ CapV C lo v
  | .bsl id off n, v => ∃ C B, M.κ id = some C ∧ C.blk = some B ∧ v = .slice (some ⟨B, off, none⟩) n n
  | .ptr id off, v => ∃ C B, M.κ id = some C ∧ C.blk = some B ∧ v = .pointer (some ⟨B, off, none⟩)
  | .eptr id i off, v => ∃ C B, M.κ id = some C ∧ C.blk = some B ∧ i < C.len ∧ v = .pointer (some ⟨B, i * C.sz + off, none⟩)
  | .fptr sh t x off, v => ∃ B o, v = .pointer (some ⟨B, o + off, none⟩) ∧ (bif sh then M.G else M.F) B ∧ ERep M.H (bif sh then M.G else M.F) t x (fun j => hcell M.H B (o + j))
  | .mrow id i ver, v => ∃ C, M.κ id = some C ∧ v.one1 = true ∧ ver ≤ C.ver ∧ (C.ver = ver → ∃ rb rl, C.rows[i]? = some (rb, rl) ∧ RowV M.H rb rl v)
  | .mptr id i, v => ∃ C B, M.κ id = some C ∧ C.blk = some B ∧ i < C.len ∧ v = .pointer (some ⟨B, i, none⟩)
  | .meptr id i j ver, v => ∃ C, M.κ id = some C ∧ v.one1 = true ∧ ver ≤ C.ver ∧ (C.ver = ver → ∃ B rl, C.rows[i]? = some (some B, rl) ∧ j < rl ∧ v = .pointer (some ⟨B, j, none⟩))
  | .nilp, v => v = .pointer none
  | .nilf, v => v = .nilFunc
  | .nilm, v => v = .map none
  | .fn f cap, v => ∃ cv, v = .func (.func f) #[] cv ∧ All2 (fun id u => ∃ C B, M.κ id = some C ∧ C.blk = some B ∧ u = .pointer (some ⟨B, 0, none⟩)) cap cv.toList
  | .map id, v => ∃ C B, M.κ id = some C ∧ C.blk = some B ∧ v = .map (some B)

theorem SlV.one {H : Array Go.Obj} {C : Conc} {lo n : Nat} {v : Value} (h : SlV H C lo n v) : v.one1 = true := by
  obtain ⟨A, c, rfl, _⟩ := h; rfl
theorem CRep.one {M : Mst} {c : CVal} {v : Value} (h : CRep M c v) : v.one1 = true := by
  cases c with
  | undef => exact h
  | fsl sh t xs => obtain ⟨A, n, c, e, _⟩ := h; simp at e; rw [e]; rfl
  | nfl sh t xs => obtain ⟨⟨a, n, c, e⟩, _⟩ := h; rw [e]; rfl
  | osl id r =>
    obtain ⟨C, _, h⟩ := h
    cases r with
    | none => exact SlV.one h
    | some p => exact SlV.one h.2.1
  | bsl id off n => obtain ⟨C, B, _, _, rfl⟩ := h; rfl
  | ptr id off => obtain ⟨C, B, _, _, rfl⟩ := h; rfl
  | eptr id i off => obtain ⟨C, B, _, _, _, rfl⟩ := h; rfl
  | fptr sh t x off => obtain ⟨B, o, rfl, _⟩ := h; rfl
  | mrow id i ver => obtain ⟨C, _, h, _⟩ := h; exact h
  | mptr id i => obtain ⟨C, B, _, _, _, rfl⟩ := h; rfl
  | meptr id i j ver => obtain ⟨C, _, h, _⟩ := h; exact h
  | fn f cap => obtain ⟨cv, rfl, _⟩ := h; rfl
  | map id => obtain ⟨C, B, _, _, rfl⟩ := h; rfl
  | _ => rw [show v = _ from h]; rfl

def CompRep (M : Mst) (x : Bool × List CVal) (v : Value) : Prop := match x with
  | (false, [c]) => CRep M c v
  | (true, cs) => ∃ vs, v = .agg vs ∧ All2 (CRep M) cs vs.toList
  | _ => False

def VRep (M : Mst) : AVal → Value → Prop
  | .undef, _ => True
  | .skp, v => v = undef
  | .c x, v => CRep M x v
  | .agg cs, v => ∃ vs, v = .agg vs ∧ All2 (CRep M) cs vs.toList
  | .tup xs, v => ∃ vs, v = .tuple vs ∧ All2 (CompRep M) xs vs.toList

/-! ### Objects -/
def Obj.owned : Obj → Bool
  | .box o _ => o
  | .arr o _ _ => o
  | .robox _ => false
  | .mat _ _ => true
  | .pmat _ _ _ => true
  | .imap _ => true
  | .gone => false

def mapFind (n : Int) : List MapEntry → Option Value
  | [] => none
  | e :: es => match e.key with
    | .int .i64 m => if n = m then some e.val else mapFind n es
    | _ => mapFind n es

def ORep (M : Mst) (o : Obj) (C : Conc) : Prop := match o with
  | .box own cells => ∃ B vals e, C.blk = some B ∧ C.rows = [] ∧ M.H[B]? = some (.cells vals e (0, 0)) ∧ All2 (CRep M) cells vals.toList ∧ (own = false → M.G B)
  | .robox cells => ∃ B vals e, C.blk = some B ∧ C.rows = [] ∧ M.H[B]? = some (.cells vals e (0, 0)) ∧ All2 (CRep M) cells vals.toList ∧ M.F B
  | .arr own t xs => C.len = xs.length ∧ C.sz = t.size ∧ (own = true → C.rows = []) ∧ (match C.blk with
    | none => xs = []
    | some B => ∃ vals e, M.H[B]? = some (.cells vals e (0, 0)) ∧ (own = false → M.G B) ∧ xs.length * t.size ≤ vals.size ∧
        ∀ i (h : i < xs.length), ERep M.H M.G t xs[i] (fun j => vals[i * t.size + j]?))
  | .mat ver xs => C.ver = ver ∧ C.len = xs.length ∧ C.sz = 1 ∧ C.rows.length = xs.length ∧ C.fp.Nodup ∧ (match C.blk with
    | none => xs = []
    | some B => ∃ vals e, M.H[B]? = some (.cells vals e (0, 0)) ∧ xs.length ≤ vals.size ∧
        ∀ i (h : i < xs.length), ∃ rb v, C.rows[i]? = some (rb, xs[i].length) ∧ vals[i]? = some v ∧ RowV M.H rb xs[i].length v ∧
          (∀ R, rb = some R → ∃ rv er, M.H[R]? = some (.cells rv er (0, 0)) ∧ ∀ j (h' : j < xs[i].length), rv[j]? = some (.int .i64 xs[i][j])))
  | .pmat ver xs n => C.ver = ver ∧ C.len = n ∧ C.sz = 1 ∧ C.rows.length = xs.length ∧ C.fp.Nodup ∧ xs.length ≤ n ∧ (match C.blk with
    | none => n = 0
    | some B => ∃ vals e, M.H[B]? = some (.cells vals e (0, 0)) ∧ n ≤ vals.size ∧
        ∀ i (h : i < xs.length), ∃ rb v, C.rows[i]? = some (rb, xs[i].length) ∧ vals[i]? = some v ∧ RowV M.H rb xs[i].length v ∧
          (∀ R, rb = some R → ∃ rv er, M.H[R]? = some (.cells rv er (0, 0)) ∧ ∀ j (h' : j < xs[i].length), rv[j]? = some (.int .i64 xs[i][j])))
  | .imap kvs => ∃ B es ck, C.blk = some B ∧ C.rows = [] ∧ M.H[B]? = some (.map es ck) ∧ (∀ e ∈ es.toList, ∃ n b, e.key = .int .i64 n ∧ e.val = .bool b) ∧
      ∀ n, mapFind n es.toList = (kvs.lookup n).map .bool
  | .gone => True

/-- A block that an object of the call's own lies in. -/
def Own (M : Mst) (b : Nat) : Prop := ∃ id o C, M.h id = some o ∧ o.owned = true ∧ M.κ id = some C ∧ b ∈ C.fp

structure Ok (M : Mst) : Prop where
  obj : ∀ id o, M.h id = some o → ∃ C, M.κ id = some C ∧ ORep M o C
  non : ∀ id, M.h id = none → M.κ id = none
  disj : ∀ i j oi oj Ci Cj b, i ≠ j → M.h i = some oi → M.h j = some oj → oi.owned = true → oj.owned = true → M.κ i = some Ci → M.κ j = some Cj → b ∈ Ci.fp → b ∈ Cj.fp → False
  own : ∀ b, Own M b → ¬ M.F b ∧ b < M.H.size
  GF : ∀ b, M.G b → M.F b
  Flt : ∀ b, M.F b → b < M.H.size

/-- What was said of values still holds. -/
structure Ext (M M' : Mst) : Prop where
  κ : ∀ id C, M.κ id = some C → ∃ C', M'.κ id = some C' ∧ C.le C'
  F : ∀ b, M.F b → M'.F b
  G : ∀ b, M.G b → M'.G b
  same : ∀ b, M.F b → M'.H[b]? = M.H[b]?
  sameG : ∀ b, M.G b → M'.H[b]? = M.H[b]?
  bsz : ∀ b, b < M.H.size → bsize M'.H b = bsize M.H b

theorem bsize_lt {H : Array Go.Obj} {b : Nat} (h : ¬ b < H.size) : bsize H b = 0 := by
  unfold bsize; rw [Array.getElem?_eq_none (by omega)]

theorem bsz_le {M M' : Mst} (x : Ext M M') (b : Nat) : bsize M.H b ≤ bsize M'.H b := by
  by_cases h : b < M.H.size
  · rw [x.bsz b h]; exact Nat.le_refl _
  · rw [bsize_lt h]; omega

theorem SlV.ext {M M' : Mst} (x : Ext M M') {C C' : Conc} (le : C.le C') {lo n : Nat} {v : Value} (h : SlV M.H C lo n v) : SlV M'.H C' lo n v := by
  obtain ⟨A, c, rfl, h⟩ := h
  refine ⟨A, c, rfl, ?_⟩
  rw [le.blk]
  cases hb : C.blk with
  | none => rw [hb] at h; exact h
  | some B =>
    rw [hb] at h
    obtain ⟨h0, a, h1, h2, h3⟩ := h
    exact ⟨h0, a, h1, by rw [le.sz]; exact h2, by rw [le.sz]; exact Nat.le_trans h3 (bsz_le x B)⟩

theorem RowV.ext {M M' : Mst} (x : Ext M M') {rb : Option Nat} {n : Nat} {v : Value} (h : RowV M.H rb n v) : RowV M'.H rb n v := by
  cases rb with
  | none => exact h
  | some B =>
    obtain ⟨a, c, h1, h2, h3, h4⟩ := h
    exact ⟨a, c, h1, h2, h3, Nat.le_trans h4 (bsz_le x B)⟩

theorem CRep.ext {M M' : Mst} (x : Ext M M') {c : CVal} {v : Value} (h : CRep M c v) : CRep M' c v := by
  cases c with
  | fsl sh t xs =>
    cases sh with
    | true => exact ERep_mono x.G x.sameG _ _ _ _ (fun _ _ => rfl) h
    | false => exact ERep_mono x.F x.same _ _ _ _ (fun _ _ => rfl) h
  | nfl sh t xs =>
    cases sh with
    | true => exact ⟨h.1, ERep_mono x.G x.sameG _ _ _ _ (fun _ _ => rfl) h.2⟩
    | false => exact ⟨h.1, ERep_mono x.F x.same _ _ _ _ (fun _ _ => rfl) h.2⟩
  | osl id r =>
    obtain ⟨C, hC, h⟩ := h
    obtain ⟨C', hC', le⟩ := x.κ id C hC
    refine ⟨C', hC', ?_⟩
    cases r with
    | none => rw [le.len]; exact SlV.ext x le h
    | some p => exact ⟨by rw [le.len]; exact h.1, SlV.ext x le h.2.1, by unfold CapV; rw [le.len]; exact h.2.2⟩
  | bsl id off n =>
    obtain ⟨C, B, hC, hB, h⟩ := h
    obtain ⟨C', hC', le⟩ := x.κ id C hC
    exact ⟨C', B, hC', le.blk.trans hB, h⟩
  | ptr id off =>
    obtain ⟨C, B, hC, hB, h⟩ := h
    obtain ⟨C', hC', le⟩ := x.κ id C hC
    exact ⟨C', B, hC', le.blk.trans hB, h⟩
  | eptr id i off =>
    obtain ⟨C, B, hC, hB, hi, h⟩ := h
    obtain ⟨C', hC', le⟩ := x.κ id C hC
    exact ⟨C', B, hC', le.blk.trans hB, by rw [le.len]; exact hi, by rw [le.sz]; exact h⟩
  | fptr sh t y off =>
    obtain ⟨B, o, h1, h2, h3⟩ := h
    cases sh with
    | true => exact ⟨B, o, h1, x.G B h2, ERep_mono x.G x.sameG _ _ _ _ (fun j _ => hcell_congr (x.sameG B h2) _) h3⟩
    | false => exact ⟨B, o, h1, x.F B h2, ERep_mono x.F x.same _ _ _ _ (fun j _ => hcell_congr (x.same B h2) _) h3⟩
  | mrow id i ver =>
    obtain ⟨C, hC, h1, hle, h⟩ := h
    obtain ⟨C', hC', le⟩ := x.κ id C hC
    have := le.ver
    refine ⟨C', hC', h1, by omega, fun e => ?_⟩
    obtain ⟨rb, rl, h2, h3⟩ := h (by omega)
    exact ⟨rb, rl, by rw [le.rows (by omega)]; exact h2, RowV.ext x h3⟩
  | mptr id i =>
    obtain ⟨C, B, hC, hB, hi, h⟩ := h
    obtain ⟨C', hC', le⟩ := x.κ id C hC
    exact ⟨C', B, hC', le.blk.trans hB, by rw [le.len]; exact hi, h⟩
  | meptr id i j ver =>
    obtain ⟨C, hC, h1, hle, h⟩ := h
    obtain ⟨C', hC', le⟩ := x.κ id C hC
    have := le.ver
    refine ⟨C', hC', h1, by omega, fun e => ?_⟩
    obtain ⟨B, rl, h2, h3⟩ := h (by omega)
    exact ⟨B, rl, by rw [le.rows (by omega)]; exact h2, h3⟩
  | fn f cap =>
    obtain ⟨cv, h1, h2⟩ := h
    refine ⟨cv, h1, h2.mono fun id u ⟨C, B, hC, hB, hu⟩ => ?_⟩
    obtain ⟨C', hC', le⟩ := x.κ id C hC
    exact ⟨C', B, hC', le.blk.trans hB, hu⟩
  | map id =>
    obtain ⟨C, B, hC, hB, h⟩ := h
    obtain ⟨C', hC', le⟩ := x.κ id C hC
    exact ⟨C', B, hC', le.blk.trans hB, h⟩
  | _ => exact h

theorem CompRep.ext {M M' : Mst} (x : Ext M M') {p : Bool × List CVal} {v : Value} (h : CompRep M p v) : CompRep M' p v := by
  obtain ⟨b, cs⟩ := p
  cases b with
  | true =>
    obtain ⟨vs, h1, h2⟩ := h
    exact ⟨vs, h1, h2.mono fun _ _ hc => hc.ext x⟩
  | false =>
    cases cs with
    | nil => exact h
    | cons c cs => cases cs with
      | nil => exact CRep.ext (c := c) x h
      | cons _ _ => exact h

theorem VRep.ext {M M' : Mst} (x : Ext M M') {a : AVal} {v : Value} (h : VRep M a v) : VRep M' a v := by
  cases a with
  | undef => trivial
  | skp => exact h
  | c c => exact CRep.ext (c := c) x h
  | agg cs =>
    obtain ⟨vs, h1, h2⟩ := h
    exact ⟨vs, h1, h2.mono fun _ _ hc => hc.ext x⟩
  | tup xs =>
    obtain ⟨vs, h1, h2⟩ := h
    exact ⟨vs, h1, h2.mono fun _ _ hc => hc.ext x⟩
end Go.Ab
