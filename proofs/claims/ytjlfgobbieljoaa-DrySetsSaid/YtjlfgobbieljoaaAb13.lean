/- The abstract layer, part 13: cuts, lengths, conversions, function values. -/
import Derived.Test.YtjlfgobbieljoaaAb12
namespace Go.Ab
open Go.RowKit
set_option linter.unusedVariables false

section
variable {cx : Cx} {S S' : St} {a : Act} {w : World} {μ : Nat → Option (Nat × Nat)} {o : Oper}

def numOf (d : Int) : Option SV → Option Int
  | none => some d
  | some (.dv (.int _ n)) => some n
  | _ => none

def isStrP (P : Program) (t : TypeId) : Bool := match P.underlying t with | some .string => true | _ => false

/-- The upper bound of a cut's capacity, of a list of length len. -/
def maxOf (len : Nat) (hi mx : Option SV) : Option Int :=
  match mx with
  | none => some len
  | some m => if hi.isSome then numOf 0 (some m) else none

def cutSV (P : Program) (t : TypeId) (x : SV × Option Blk) (lo hi mx : Option SV) : Option SV :=
  match x with
  | (.dv (.list l), _) =>
    match elemP P t, numOf 0 lo, numOf l.length hi, maxOf l.length hi mx with
    | some e, some n, some m, some k =>
      match szP P e with
      | some sz => if 0 ≤ n ∧ n ≤ m ∧ m ≤ k ∧ k ≤ l.length ∧ (l.all fun d => d.cells.length == sz) then some (.dv (.list ((l.drop n.toNat).take (m - n).toNat))) else none
      | none => none
    | _, _, _, _ => none
  | (.sl t' g k len, some blk) =>
    match mx, elemP P t, numOf 0 lo, numOf len hi with
    | none, some e, some n, some m => if 0 ≤ n ∧ n ≤ m ∧ m ≤ len ∧ szP P e = some blk.esz then (if n = m then (if n = 0 then some (.sl t' g k 0) else some (.dv (.list []))) else some (.sl t' g (k + n.toNat) (m - n).toNat)) else none
    | _, _, _, _ => none
  | (.dv (.str s), _) =>
    match mx, isStrP P t, numOf 0 lo, numOf s.size hi with
    | none, true, some n, some m => if 0 ≤ n ∧ n ≤ m ∧ m ≤ s.size then some (.dv (.str (s.extract n.toNat m.toNat))) else none
    | _, _, _, _ => none
  | _ => none

theorem num_rep (h : SimU cx S a w μ) {d n : Int} {x : Option Operand} (hn : numOf d (x.map S.ev) = some n) : x.map a.eval = none ∧ n = d ∧ x = none ∨ ∃ q, x.map a.eval = some (.int q n) := by
  cases x with
  | none => simp [numOf] at hn; exact .inl ⟨rfl, hn.symm, rfl⟩
  | some x =>
    have hx := h.ev x
    simp only [Option.map_some, numOf] at hn
    split at hn
    · rename_i h0; cases h0
    · rename_i k n' h0
      simp only [Option.some.injEq] at h0 hn
      subst hn
      rw [h0] at hx
      simp only [SVRep] at hx
      generalize hv : a.eval x = vx at *
      cases hx
      exact .inr ⟨k, by simp [hv]⟩
    · cases hn

theorem flat_drop : ∀ (l : List DV) (e : Nat), (∀ d ∈ l, d.cells.length = e) → ∀ n, flat (l.drop n) = (flat l).drop (n * e)
  | [], _, _, n => by simp [flat]
  | d :: l, e, h, 0 => by simp
  | d :: l, e, h, n + 1 => by
    have ih := flat_drop l e (fun d' hd => h d' (by simp [hd])) n
    have hd := h d (by simp)
    simp only [List.drop_succ_cons]
    rw [ih]
    simp only [flat, List.flatMap_cons]
    rw [Nat.add_mul, Nat.one_mul, Nat.add_comm, ← hd, ← List.drop_drop, List.drop_left]

theorem flat_take_get : ∀ (l : List DV) (k j : Nat) (c : DV), (flat (l.take k))[j]? = some c → (flat l)[j]? = some c := by
  intro l k j c h
  have : flat l = flat (l.take k) ++ flat (l.drop k) := by
    simp only [flat, ← List.flatMap_append, List.take_append_drop]
  rw [this, List.getElem?_append_left (List.getElem?_eq_some_iff.1 h).1]
  exact h

/-- A slice's value, cut. -/
theorem cut_slice_run {P : Program} {t e : TypeId} {sz : Nat} (hu : P.underlying t = some (.slice e)) (hs : szP P e = some sz) {ad : Option Addr} {len cap : Nat} {lo hi mx : Option Value} {n m k : Int}
    (hb : ∀ w, (Instr.sliceBounds true len cap lo hi mx).run P w = .ok (n.toNat, m.toNat, k.toNat) w) (w : World) :
    (Instr.sliceAt t (.slice ad len cap) lo hi mx).run P w = .ok (.slice (if k.toNat = n.toNat then ad else ad.map (·.add (n.toNat * sz))) (m.toNat - n.toNat) (k.toNat - n.toNat)) w := by
  unfold szP at hs
  obtain ⟨i, hi', hi2⟩ := Option.map_eq_some_iff.1 hs
  simp [Instr.sliceAt, Instr.slice, run_underlying hu, hb, sizeOf, typeInfo, hi', hi2]

theorem cut_runs (h : SimU cx S a w μ) {t : TypeId} {x : Operand} {lo hi mx : Option Operand} (ho : o.op = .slice t x lo hi mx) {r : SV} (hr : cutSV cx.P t (S.look x) (lo.map S.ev) (hi.map S.ev) (mx.map S.ev) = some r)
    (ha : S.apply cx.n o.dst (.val r) = some S') : Runs cx S' o a w := by
  have hx := h.ev x
  unfold cutSV at hr
  generalize hlk : S.look x = lx at hr
  have fin : ∀ {v' : Value}, (Instr.sliceAt t (a.eval x) (lo.map a.eval) (hi.map a.eval) (mx.map a.eval)).run cx.P w = .ok v' w → SVRep w S.M μ (XX cx S.M μ) r v' → Runs cx S' o a w := by
    intro v' hrun hrep
    refine runs_val h (v := v') ?_ hrep ha
    unfold execOp
    simp only [ho, Sem.run_bind, hrun, Result.andThen_ok]
    rfl
  split at hr
  · rename_i l q
    have ex : S.ev x = .dv (.list l) := congrArg Prod.fst hlk
    rw [ex] at hx
    simp only [SVRep] at hx
    split at hr
    · rename_i e n m k he hn hm hk
      split at hr
      · rename_i sz hsz
        split at hr
        · rename_i hc
          obtain ⟨c0, c1, c2, c3, c4⟩ := hc
          simp only [Option.some.injEq] at hr
          subst hr
          have hu := elemP_spec he
          have hlo : lo.map a.eval = none ∧ n = 0 ∨ ∃ q, lo.map a.eval = some (.int q n) := (num_rep h hn).imp (fun ⟨a, b, _⟩ => ⟨a, b⟩) id
          have hall : ∀ d ∈ l, d.cells.length = sz := fun d hd => by
            have := List.all_eq_true.1 c4 d hd
            simpa using this
          have hmm : mx.map S.ev = none ∨ ∃ y, mx = some y ∧ hi.isSome = true ∧ numOf 0 (some (S.ev y)) = some k := by
            cases mx with
            | none => exact .inl rfl
            | some y =>
              right
              simp only [maxOf, Option.map_some] at hk
              split at hk
              · rename_i hs; exact ⟨y, rfl, by simpa using hs, hk⟩
              · cases hk
          have bnd : ∀ cap : Nat, l.length ≤ cap → ∃ k' : Int, m ≤ k' ∧ ((mx = none → k' = cap) ∧ (mx ≠ none → k' = k)) ∧ ∀ w, (Instr.sliceBounds true l.length cap (lo.map a.eval) (hi.map a.eval) (mx.map a.eval)).run cx.P w = .ok (n.toNat, m.toNat, k'.toNat) w := by
            intro cap hcap
            rcases hmm with hmm | ⟨y, rfl, hs, hk'⟩
            · have : mx = none := by simpa using hmm
              subst this
              refine ⟨(cap : Int), by omega, ⟨fun _ => rfl, fun hne => absurd rfl hne⟩, fun w => ?_⟩
              refine bounds_run hlo ?_ (.inl ⟨rfl, rfl⟩) c0 c1 (by omega) (by omega) w
              rcases num_rep h hm with ⟨h1, h2, h3⟩ | h1
              · exact .inl ⟨h1, h2, rfl⟩
              · exact .inr h1
            · refine ⟨k, c2, ⟨fun hne => by simp at hne, fun _ => rfl⟩, fun w => ?_⟩
              refine bounds_run hlo ?_ ?_ c0 c1 c2 (by omega) w
              · rcases num_rep h hm with ⟨h1, h2, h3⟩ | h1
                · subst h3; simp at hs
                · exact .inr h1
              · rcases num_rep h (x := some y) (d := 0) hk' with ⟨h1, _, _⟩ | h1
                · simp at h1
                · exact .inr (by simpa using h1)
          have nil : ∀ (ad : Option Addr) (cap : Nat) (k' : Int), m = n → a.eval x = .slice ad l.length cap → (∀ w, (Instr.sliceBounds true l.length cap (lo.map a.eval) (hi.map a.eval) (mx.map a.eval)).run cx.P w = .ok (n.toNat, m.toNat, k'.toNat) w) → Runs cx S' o a w := by
            intro ad cap k' hmn hv hb
            refine fin (by rw [hv]; exact cut_slice_run hu hsz hb w) ?_
            simp only [SVRep]
            have e1 : (m - n).toNat = 0 := by omega
            have e2 : m.toNat - n.toNat = 0 := by omega
            rw [e1, e2, List.take_zero]
            exact .listNil _ _
          generalize hv : a.eval x = vx at *
          cases hx with
          | listNil ad cap =>
            simp only [List.length_nil] at *
            obtain ⟨k', _, _, hb⟩ := bnd cap (by omega)
            exact nil ad cap k' (by omega) rfl hb
          | list _ b off cap esz u h1 h2 hcap h3 h4 h5 =>
            obtain ⟨k', hk1, hk2, hb⟩ := bnd cap hcap
            by_cases hmn : m = n
            · exact nil _ cap k' hmn rfl hb
            · have hrun := cut_slice_run hu hsz (ad := some ⟨b, off, none⟩) hb w
              rw [if_neg (by omega)] at hrun
              simp only [Option.map_some, Addr.add_lit] at hrun
              refine fin hrun ?_
              have hez : sz = esz := by
                have hl : 0 < l.length := by omega
                rw [← hall l[0] (List.getElem_mem hl), h3 l[0] (List.getElem_mem hl)]
              subst hez
              have hlen : ((l.drop n.toNat).take (m - n).toNat).length = m.toNat - n.toNat := by simp; omega
              have hsub : ∀ j c, (flat ((l.drop n.toNat).take (m - n).toNat))[j]? = some c → (flat l)[n.toNat * sz + j]? = some c := fun j c hj => by
                have := flat_take_get _ _ _ _ hj
                rwa [flat_drop l sz hall, List.getElem?_drop] at this
              simp only [SVRep]
              rw [← hlen]
              refine .list _ b (off + n.toNat * sz) _ sz (fun j => u (n.toNat * sz + j)) h1 h2 (by rw [hlen]; omega) (fun d hd => hall d (List.mem_of_mem_drop (List.mem_of_mem_take hd))) ?_ ?_
              · intro j c hj
                have := h4 _ c (hsub j c hj)
                rwa [← Nat.add_assoc] at this
              · intro j c hj
                exact h5 _ c (hsub j c hj)
        · cases hr
      · cases hr
    · cases hr
  · rename_i t' g k len blk
    have ex : S.ev x = .sl t' g k len := congrArg Prod.fst hlk
    have eb : blkOf S.M (S.ev x) = some blk := congrArg Prod.snd hlk
    rw [ex] at hx eb
    have hM := blkOf_sl eb
    simp only [SVRep] at hx
    have hx2 := hx.2 blk hM
    split at hr
    · rename_i e n m hmx he hn hm
      split at hr
      · rename_i hc
        obtain ⟨c0, c1, c2, c3⟩ := hc
        have hr' : r = (if n = m then (if n = 0 then .sl t' g k 0 else .dv (.list [])) else .sl t' g (k + n.toNat) (m - n).toNat) := by
          by_cases hq : n = m
          · rw [if_pos hq] at hr ⊢
            by_cases hq0 : n = 0
            · rw [if_pos hq0] at hr ⊢; exact (Option.some.inj hr).symm
            · rw [if_neg hq0] at hr ⊢; exact (Option.some.inj hr).symm
          · rw [if_neg hq] at hr ⊢; exact (Option.some.inj hr).symm
        clear hr
        subst hr'
        have hu := elemP_spec he
        have hmx' : mx = none := by cases mx with | none => rfl | some _ => simp at hmx
        subst hmx'
        have hlo : lo.map a.eval = none ∧ n = 0 ∨ ∃ q, lo.map a.eval = some (.int q n) := (num_rep h hn).imp (fun ⟨a, b, _⟩ => ⟨a, b⟩) id
        have hhi : hi.map a.eval = none ∧ m = len ∧ (none : Option Operand).map a.eval = none ∨ ∃ q, hi.map a.eval = some (.int q m) := (num_rep h hm).imp (fun ⟨a, b, _⟩ => ⟨a, b, rfl⟩) id
        cases hmu : μ t' with
        | none =>
          rw [hmu] at hx2
          simp only at hx2
          obtain ⟨hv, rfl, rfl⟩ := hx2
          have hb := fun w => bounds_run (P := cx.P) (isS := true) (len := 0) (cap := 0) (k := 0) hlo hhi (.inl ⟨rfl, rfl⟩) c0 c1 (by omega) (by omega) w
          refine fin (by rw [hv]; exact cut_slice_run hu c3 hb w) ?_
          have e2 : m.toNat - n.toNat = 0 := by omega
          rw [if_pos (by omega), if_pos (by omega), e2]
          simp only [SVRep]
          refine ⟨⟨rfl, hx.1.2⟩, fun blk' e' => ?_⟩
          rw [hmu]
          exact ⟨by simp, trivial, trivial⟩
        | some p =>
          obtain ⟨b, cap⟩ := p
          rw [hmu] at hx2
          simp only at hx2
          obtain ⟨hv, hcap⟩ := hx2
          have hb := fun w => bounds_run (P := cx.P) (isS := true) (len := len) (cap := cap - k) (k := (cap - k : Nat)) hlo hhi (.inl ⟨rfl, rfl⟩) c0 c1 (by omega) (by omega) w
          have hrun := cut_slice_run hu c3 (ad := some ⟨b, k * blk.esz, none⟩) hb w
          simp only [Option.map_some, Addr.add_lit, Int.toNat_natCast] at hrun
          refine fin (by rw [hv]; exact hrun) ?_
          by_cases hnm : n = m
          · have e2 : m.toNat - n.toNat = 0 := by omega
            rw [if_pos hnm]
            by_cases hn0 : n = 0
            · rw [if_pos hn0, e2]
              simp only [SVRep]
              refine ⟨⟨rfl, hx.1.2⟩, fun blk' e' => ?_⟩
              rw [hM] at e'
              simp only [Prod.mk.injEq, Option.some.injEq, true_and] at e'
              subst e'
              rw [hmu]
              simp only
              refine ⟨?_, by omega⟩
              subst hn0
              simp
            · rw [if_neg hn0, e2]
              simp only [SVRep]
              exact .listNil _ _
          · rw [if_neg hnm, if_neg (by omega)]
            simp only [SVRep]
            refine ⟨⟨rfl, hx.1.2⟩, fun blk' e' => ?_⟩
            rw [hM] at e'
            simp only [Prod.mk.injEq, Option.some.injEq, true_and] at e'
            subst e'
            rw [hmu]
            simp only
            refine ⟨?_, by omega⟩
            rw [Nat.add_mul]
            congr 1 <;> omega
      · cases hr
    · cases hr
  · rename_i s q
    have ex : S.ev x = .dv (.str s) := congrArg Prod.fst hlk
    rw [ex] at hx
    simp only [SVRep] at hx
    split at hr
    · rename_i n m hmx hst hn hm
      split at hr
      · rename_i hc
        obtain ⟨c0, c1, c2⟩ := hc
        simp only [Option.some.injEq] at hr
        subst hr
        have hu : cx.P.underlying t = some .string := by
          unfold isStrP at hst
          split at hst
          · assumption
          · cases hst
        have hmx' : mx = none := by cases mx with | none => rfl | some _ => simp at hmx
        subst hmx'
        have hlo : lo.map a.eval = none ∧ n = 0 ∨ ∃ q, lo.map a.eval = some (.int q n) := (num_rep h hn).imp (fun ⟨a, b, _⟩ => ⟨a, b⟩) id
        have hhi : hi.map a.eval = none ∧ m = s.size ∧ (none : Option Value) = none ∨ ∃ q, hi.map a.eval = some (.int q m) := (num_rep h hm).imp (fun ⟨a, b, _⟩ => ⟨a, b, rfl⟩) id
        have hb := fun w => bounds_run (P := cx.P) (isS := false) (len := s.size) (cap := s.size) (k := s.size) (mx := none) hlo hhi (.inl ⟨rfl, rfl⟩) c0 c1 c2 (by omega) w
        generalize hv : a.eval x = vx at *
        cases hx
        refine fin (v' := .string (s.extract n.toNat m.toNat)) ?_ (by simp only [SVRep]; exact .str _)
        simp [Instr.sliceAt, Instr.slice, run_underlying hu, hb]
      · cases hr
    · cases hr
  · cases hr

end
end Go.Ab
