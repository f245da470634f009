/- What an operation looks at. -/
import Derived.Test.YtpmkkfbnaohlhaaGiAb15
set_option linter.unusedVariables false
set_option linter.unusedSimpArgs false
namespace Go.Ab

section
variable {P : Program} {h h' : Hp}

theorem loadS_h {t : TypeId} {a : AVal} (hh : ∀ id ∈ idsV a, h id = h' id) : loadS P h t a = loadS P h' t a := by
  unfold loadS
  cases a with
  | c v => cases v <;> first | rfl | (have := hh _ (List.mem_singleton.2 rfl); simp only [this])
  | _ => rfl

theorem frzC_h {v : CVal} (hh : ∀ id ∈ idsC v, h id = h' id) : frzC h v = frzC h' v := by
  unfold frzC
  cases v <;> first | rfl | (have := hh _ (List.mem_singleton.2 rfl); simp only [this])

theorem frzL_h : ∀ {vs : List CVal}, (∀ id ∈ vs.flatMap idsC, h id = h' id) → frzL h vs = frzL h' vs
  | [], _ => rfl
  | v :: vs, hh => by
    simp only [List.flatMap_cons, List.mem_append] at hh
    unfold frzL
    rw [frzC_h fun id hi => hh id (.inl hi), frzL_h fun id hi => hh id (.inr hi)]

theorem valCells_ids {v : AVal} {vs : List CVal} (e : valCells v = some vs) : vs.flatMap idsC = idsV v := by
  unfold valCells at e
  split at e
  · cases e; simp [idsV]
  · cases e; rfl
  · cases e

theorem storeS_h {t : TypeId} {a v : AVal} (ha : ∀ id ∈ idsV a, h id = h' id) (hv : ∀ id ∈ idsV v, h id = h' id) : storeS P h t a v = storeS P h' t a v := by
  unfold storeS
  cases e : valCells v with
  | none => rfl
  | some vs =>
    have hf : frzL h vs = frzL h' vs := frzL_h (by rw [valCells_ids e]; exact hv)
    cases a with
    | c x =>
      cases x with
      | mptr id i =>
        have h1 := ha _ (List.mem_singleton.2 rfl)
        simp only [h1]
        generalize h' id = ob
        rcases ob with _ | (_ | _ | _ | _ | _ | _ | _) <;> first | rfl | skip
        all_goals cases v with
        | c y => cases y with
          | osl jd r => cases r with
            | none =>
              have h2 := hv _ (List.mem_singleton.2 rfl)
              simp only [h2]
            | some _ => rfl
          | _ => rfl
        | _ => rfl
      | ptr id off =>
        have h1 := ha _ (List.mem_singleton.2 rfl)
        simp only [h1]
      | eptr id i off =>
        have h1 := ha _ (List.mem_singleton.2 rfl)
        simp only [h1, hf]
      | meptr id i j ver =>
        have h1 := ha _ (List.mem_singleton.2 rfl)
        simp only [h1]
      | _ => rfl
    | _ => rfl

theorem readSl_h {v : CVal} (hh : ∀ id ∈ idsC v, h id = h' id) : readSl h v = readSl h' v := by
  unfold readSl
  cases v <;> first | rfl | (have := hh _ (List.mem_singleton.2 rfl); simp only [this])

theorem lenSl_h {v : CVal} (hh : ∀ id ∈ idsC v, h id = h' id) : lenSl h v = lenSl h' v := by
  have e := readSl_h hh
  unfold lenSl
  cases v <;> first | rfl | simp only [e]

theorem indexAddrS_h {t : TypeId} {x i : AVal} (hh : ∀ id ∈ idsV x, h id = h' id) : indexAddrS P h t x i = indexAddrS P h' t x i := by
  unfold indexAddrS
  generalize P.underlying t = d
  rcases d with _ | d
  · rfl
  · cases d with
    | slice e =>
      cases x with
      | c v =>
        cases i with
        | c iv =>
          cases iv with
          | int k n => cases v <;> first | rfl | (have := hh _ (List.mem_singleton.2 rfl); simp only [this])
          | _ => cases v <;> rfl
        | _ => cases v <;> rfl
      | _ => rfl
    | array n e =>
      cases x with
      | c v =>
        cases v <;> first | rfl | skip
        cases i with
        | c iv => cases iv <;> rfl
        | _ => rfl
      | _ => rfl
    | _ => rfl

theorem makeMapS_h {nm : Nat} {t : TypeId} (h0 : h nm = h' nm) : makeMapS P nm h t = makeMapS P nm h' t := by
  unfold makeMapS
  rw [h0]

theorem lookupS_h {t : TypeId} {x i : AVal} (hh : ∀ id ∈ idsV x, h id = h' id) : lookupS P h t x i = lookupS P h' t x i := by
  unfold lookupS
  split
  · rename_i id n
    rw [hh id (by simp [idsV, idsC])]
  · rfl

theorem mapUpdateS_h {t : TypeId} {x i y : AVal} (hh : ∀ id ∈ idsV x, h id = h' id) : mapUpdateS P h t x i y = mapUpdateS P h' t x i y := by
  unfold mapUpdateS
  split
  · rename_i id n b
    rw [hh id (by simp [idsV, idsC])]
  · rfl

theorem sliceS_h {t : TypeId} {x : AVal} {lo hi mx : Option AVal} (hh : ∀ id ∈ idsV x, h id = h' id) : sliceS P h t x lo hi mx = sliceS P h' t x lo hi mx := by
  unfold sliceS
  split
  · rfl
  · rename_i id r _
    rw [hh id (by simp [idsV, idsC])]
  · rename_i id _
    rw [hh id (by simp [idsV, idsC])]
  · rename_i id off _
    rw [hh id (by simp [idsV, idsC])]
  · rfl

theorem takeRow_h {v : AVal} (hh : ∀ id ∈ idsV v, h id = h' id) : takeRow h v = takeRow h' v := by
  unfold takeRow
  cases v with
  | c v => cases v with
    | osl jd r => cases r with
      | none =>
        have h2 := hh _ (List.mem_singleton.2 rfl)
        simp only [h2]
      | some _ => rfl
    | _ => rfl
  | _ => rfl

theorem fillR_h : ∀ {parts : List (Nat × AVal)} {rows : List (List Int)}, (∀ id ∈ (parts.map (·.2)).flatMap idsV, h id = h' id) → fillR h rows parts = fillR h' rows parts
  | [], _, _ => rfl
  | (i, v) :: rest, rows, hh => by
    simp only [List.map_cons, List.flatMap_cons, List.mem_append] at hh
    unfold fillR
    rw [takeRow_h fun id hi => hh id (.inl hi)]
    cases takeRow h' v with
    | none => rfl
    | some p => simp only [fillR_h fun id hi => hh id (.inr hi)]

theorem fillE_h {t : Ty} : ∀ {parts : List (Nat × AVal)} {xs : List t.den}, (∀ id ∈ (parts.map (·.2)).flatMap idsV, h id = h' id) → fillE h t xs parts = fillE h' t xs parts
  | [], _, _ => rfl
  | (i, v) :: rest, xs, hh => by
    simp only [List.map_cons, List.flatMap_cons, List.mem_append] at hh
    unfold fillE
    cases e : valCells v with
    | none => rfl
    | some vs =>
      have hf : frzL h vs = frzL h' vs := frzL_h (by rw [valCells_ids e]; exact fun id hi => hh id (.inl hi))
      simp only [hf]
      cases frzL h' vs with
      | none => rfl
      | some p =>
        dsimp only
        cases fromCells t p.1 with
        | none => rfl
        | some x => simp only [fillE_h fun id hi => hh id (.inr hi)]

theorem buildSliceS_h {mat : Bool} {nm : Nat} {t : TypeId} {n : Nat} {parts : List (Nat × AVal)} (h0 : h nm = h' nm) (hh : ∀ id ∈ (parts.map (·.2)).flatMap idsV, h id = h' id) :
    buildSliceS P mat nm h t n parts = buildSliceS P mat nm h' t n parts := by
  have e : (fun ty => fillE h ty (List.replicate n ty.dflt) parts) = fun ty => fillE h' ty (List.replicate n ty.dflt) parts := funext fun ty => fillE_h hh
  have e' : ∀ ty : Ty, fillE h ty (List.replicate n ty.dflt) parts = fillE h' ty (List.replicate n ty.dflt) parts := fun ty => fillE_h hh
  unfold buildSliceS
  rw [h0, fillR_h hh]
  simp only [e']

theorem makeSliceS_h {mat : Bool} {nm : Nat} {t : TypeId} {l c : AVal} (h0 : h nm = h' nm) : makeSliceS P mat nm h t l c = makeSliceS P mat nm h' t l c := by
  unfold makeSliceS
  rw [h0]

theorem tailOf_h {t : Ty} {v : CVal} (hh : ∀ id ∈ idsC v, h id = h' id) : tailOf h t v = tailOf h' t v := by
  unfold tailOf
  cases v with
  | osl id r =>
    have := hh _ (List.mem_singleton.2 rfl)
    simp only [this]
  | _ => rfl

theorem appendS_h {mat : Bool} {nm : Nat} {t : TypeId} {b x : AVal} (h0 : h nm = h' nm) (hb : ∀ id ∈ idsV b, h id = h' id) (hx : ∀ id ∈ idsV x, h id = h' id) : appendS P mat nm h t b x = appendS P mat nm h' t b x := by
  unfold appendS
  rw [h0]
  generalize P.underlying t = d
  rcases d with _ | d
  · rfl
  cases d with
  | slice e =>
    generalize h' nm = on
    cases on with
    | some _ => rfl
    | none =>
      cases b with
      | c b =>
        cases x with
        | c x =>
          have ht : ∀ ty, tailOf h ty x = tailOf h' ty x := fun ty => tailOf_h hx
          simp only [ht]
          cases b with
          | osl id r =>
            have h1 := hb _ (List.mem_singleton.2 rfl)
            simp only [h1]
            cases x with
            | osl jd r2 =>
              have h2 := hx _ (List.mem_singleton.2 rfl)
              cases mat with
              | false => rfl
              | true =>
                generalize elemTy P e = et
                rcases et with _ | (_ | _ | _ | _) <;> first | rfl | skip
                rename_i t2
                cases t2 <;> first | rfl | skip
                rename_i k
                cases k <;> cases r <;> cases r2 <;> first | rfl | simp only [h1, h2]
            | _ => cases mat with
              | false => rfl
              | true =>
                generalize elemTy P e = et
                rcases et with _ | (_ | _ | _ | _) <;> first | rfl | skip
                rename_i t2
                cases t2 <;> first | rfl | skip
                rename_i k
                cases k <;> cases r <;> rfl
          | _ => cases mat with
            | false => rfl
            | true =>
              generalize elemTy P e = et
              rcases et with _ | (_ | _ | _ | _) <;> first | rfl | skip
              rename_i t2
              cases t2 <;> first | rfl | skip
              rename_i k
              cases k <;> rfl
        | _ => rfl
      | _ => rfl
  | _ => rfl

theorem copyS_h {d s : AVal} (hd : ∀ id ∈ idsV d, h id = h' id) (hs : ∀ id ∈ idsV s, h id = h' id) : copyS h d s = copyS h' d s := by
  unfold copyS
  cases d with
  | c d =>
    cases s with
    | c s =>
      cases d with
      | bsl id off n =>
        have h1 := hd _ (List.mem_singleton.2 rfl)
        have h2 : readSl h s = readSl h' s := readSl_h hs
        simp only [h1]
        cases s <;> first | rfl | simp only [h2]
      | _ => rfl
    | _ => cases d <;> rfl
  | _ => rfl
end
end Go.Ab
