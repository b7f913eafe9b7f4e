/- The abstract layer, part 31: clear; the lending call in a region that draws. Written by wip/gen/ab31.py. -/
import Derived.Test.YtjlfgobbieljoaaAb30
set_option linter.unusedVariables false
namespace Go.Ab
open Go.RowKit

theorem zeroCells_int {k : IntKind} (n : Nat) : (Builtin.zeroCells #[Value.int k 0] n).toList = List.replicate n (Value.int k 0) := by
  apply List.ext_getElem
  · simp [Builtin.zeroCells]
  · intro j h1 h2
    simp [Builtin.zeroCells, Nat.mod_one]

section
variable {cx : Cx} {S : St} {a : Act} {w : World} {o : Oper}
/-- A part of a row of integers is cleared. -/
theorem clear_does (h0 : Sim cx S a w) {x : Operand} {t e : TypeId} (ho : o.op = .call { callee := .builtin .clear, args := #[x], argTypes := #[t] }) (hd : o.dst = none) {tg g off n st : Nat} {k : IntKind} {L : List Int}
    (hx : S.look x = (.sl tg g off n, some ⟨L.map fun q => .dv (.int k q), 1, e, st, true⟩)) (he : elemP cx.P t = some e) (hz : zeroP cx.P e = some [.dv (.int k 0)]) (hst : OwS st) (hle : off + n ≤ L.length) :
    Does cx ⟨S.F, upd (noViews S.M) tg (g, some ⟨(L.take off ++ List.replicate n 0 ++ L.drop (off + n)).map fun q => .dv (.int k q), 1, e, st, true⟩)⟩ o a w := by
  obtain ⟨μ, h⟩ := h0
  have ex : S.ev x = .sl tg g off n := congrArg Prod.fst hx
  have eb : blkOf S.M (S.ev x) = some _ := congrArg Prod.snd hx
  have hv := h.ev x
  rw [ex] at hv eb
  have hM := blkOf_sl eb
  simp only [SVRep] at hv
  have hv2 := hv.2 _ hM
  have hb := h.blk tg g _ hM
  have hu := elemP_spec he
  unfold BlkRep at hb
  have cells : (putCells (L.map fun q => SV.dv (.int k q)) off (List.replicate n (SV.dv (.int k 0)))) = ((L.take off ++ List.replicate n 0 ++ L.drop (off + n)).map fun q => SV.dv (.int k q)) := by
    simp [putCells, List.map_take, List.map_drop, List.map_replicate]
  unfold zeroP at hz
  cases hi : cx.P.info? e with
  | none => rw [hi] at hz; cases hz
  | some i =>
    rw [hi] at hz
    obtain ⟨z, hz1, hz2⟩ := Option.map_eq_some_iff.1 hz
    have hzc : z.cells = #[Value.int k 0] := by
      have hl : z.cells.toList.length = 1 := by have := congrArg List.length hz2; simpa using this
      obtain ⟨c, hc⟩ := List.length_eq_one_iff.1 hl
      rw [hc] at hz2
      simp only [List.map_cons, List.map_nil, List.cons.injEq, and_true] at hz2
      have : c = Value.int k 0 := by
        cases c <;> simp only [svOfCell] at hz2 <;> (try split at hz2) <;> simp_all
      subst this
      apply Array.toList_inj.1
      simpa using hc
    have run1 : ∀ w', (Builtin.clear_ #[t] o.type #[a.eval x]).run cx.P w = .ok (.tuple #[]) w' → (execOp a.eval o).run cx.P w = .ok (.value (.tuple #[])) w' := fun w' hr => by
      refine builtin_exec ho ?_
      simp only [builtin, Sem.run_bind, List.map_toArray, List.map_cons, List.map_nil, hr, Result.andThen_ok]
      rfl
    have fin : ∀ w', (Builtin.clear_ #[t] o.type #[a.eval x]).run cx.P w = .ok (.tuple #[]) w' → (∃ μ', SimU cx ⟨S.F, upd (noViews S.M) tg (g, some ⟨(L.take off ++ List.replicate n 0 ++ L.drop (off + n)).map fun q => .dv (.int k q), 1, e, st, true⟩)⟩ a w' μ') →
        Does cx ⟨S.F, upd (noViews S.M) tg (g, some ⟨(L.take off ++ List.replicate n 0 ++ L.drop (off + n)).map fun q => .dv (.int k q), 1, e, st, true⟩)⟩ o a w := fun w' hr hs Q => by
      unfold Oper.wp
      rw [run1 w' hr]
      show Sim cx _ (a.put o.dst _) w'
      rw [hd]
      exact hs
    cases hm : μ tg with
    | none =>
      rw [hm] at hv2 hb
      simp only at hv2 hb
      obtain ⟨hv3, rfl, rfl⟩ := hv2
      have hL : L = [] := by have := hb.1; simpa using this
      subst hL
      refine fin w (by rw [hv3]; simp [Builtin.clear_, run_underlying hu]) ⟨μ, ?_⟩
      have hw : SimU cx ⟨S.F, noViews S.M⟩ a w μ := h.weak (fun i => .inr rfl) fun t => by
        show noViews S.M t = S.M t ∨ noViews S.M t = ((S.M t).1, none)
        unfold noViews
        cases hq : (S.M t).2 with
        | none => exact .inl rfl
        | some b' =>
          simp only
          split
          · exact .inr rfl
          · exact .inl rfl
      have : upd (noViews S.M) tg (g, some ⟨([] ++ List.replicate 0 0 ++ ([] : List Int).drop 0).map fun q => .dv (.int k q), 1, e, st, true⟩) = noViews S.M := by
        funext t
        by_cases ht : t = tg
        · subst ht
          rw [upd_same]
          unfold noViews
          rw [hM]
          have : ¬ st = 2 := by unfold OwS at hst; omega
          simp [this]
        · rw [upd_ne _ _ _ _ ht]
      have e2 : (List.take 0 ([] : List Int) ++ List.replicate 0 0 ++ List.drop (0 + 0) []) = [] ++ List.replicate 0 0 ++ ([] : List Int).drop 0 := rfl
      rw [e2, this]
      exact hw
    | some p =>
      obtain ⟨b, cap⟩ := p
      rw [hm] at hv2 hb
      simp only at hv2 hb
      obtain ⟨hv3, hcap⟩ := hv2
      obtain ⟨cur, q1, q2, q3, q4, q5⟩ := hb
      simp only [Nat.mul_one] at hv3
      have q2' : L.length ≤ cur.size := by simpa using q2
      have hst' := run_storeCells_at cx.P b off e (List.replicate n (Value.int k 0)) 0 cur w q1 (by simp; omega) (fun v hv => by rw [List.eq_of_mem_replicate hv]; rfl)
      simp only [Nat.add_zero] at hst'
      have hW := h.write hM hst hm q1 off (List.replicate n (SV.dv (.int k 0))) (List.replicate n (Value.int k 0)) (by simp) (fun j c u hc hu => by
        have h1 := List.eq_of_mem_replicate (List.mem_of_getElem? hc)
        have h2 := List.eq_of_mem_replicate (List.mem_of_getElem? hu)
        subst h1; subst h2
        simp only [SVRep]
        exact .int _ _) (by simp; omega)
      simp only [cells] at hW
      rcases Nat.eq_zero_or_pos n with hn | hn
      · subst hn
        refine fin w (by rw [hv3]; simp [Builtin.clear_, run_underlying hu]) ⟨μ, ?_⟩
        have e3 : w.setRow b (putCells cur.toList off (List.replicate 0 (Value.int k 0))).toArray = w := by
          have : (putCells cur.toList off (List.replicate 0 (Value.int k 0))).toArray = cur := by simp [putCells]
          rw [this]
          exact setRow_self w b cur e (0, 0) q1
        rw [e3] at hW
        exact hW
      · refine fin _ ?_ ⟨μ, hW⟩
        rw [hv3]
        obtain ⟨m, rfl⟩ : ∃ m, n = m + 1 := ⟨n - 1, by omega⟩
        simp [Builtin.clear_, run_underlying hu, zeroValue, typeInfo, hi, hz1, hzc, zeroCells_int, putCells] at hst' ⊢
        simp [hst']
end

section
variable {cx : Cx} {P : Program} {N : Nat} {ops : Array Oper} {rest : List Oper} {l : List (Nat × SV)} {m m' : List (Nat × Nat × Option Blk)} {K : St → Prop}
  {ty : TypeId} {p : String} {af : Array Edge} {gd : Option (Nat × Bool)} {x : Operand} {t e : TypeId} {tg g off n st : Nat} {k : IntKind} {L : List Int}
theorem qcl {L' : List Int} (he : elemP P t = some e) (hz : zeroP P e = some [.dv (.int k 0)]) (kk : Chain cx ops rest ⟨lk l, mkM ((tg, g, some ⟨L'.map fun q => .dv (.int k q), 1, e, st, true⟩) :: m')⟩ K)
    (hx : St.look ⟨lk l, mkM m⟩ x = (.sl tg g off n, some ⟨L.map fun q => .dv (.int k q), 1, e, st, true⟩) := by (simp only [St.look, St.ev, lk, mkM, blkOf, svOf, svOfCell, reduceIte, Nat.reduceAdd, Nat.reduceEqDiff, Nat.reduceMul] <;> rfl)) (hst : OwS st := by (first | exact .inl rfl | exact .inr (by decide))) (hle : off + n ≤ L.length := by (first | omega | (simp only [Int.toNat_natCast, List.length_map, List.length_append, List.length_cons, List.length_nil, List.length_take, List.length_drop, List.length_set, List.length_replicate, Nat.zero_add, Nat.mul_one] <;> omega) | (simp <;> omega))) (hL : L.take off ++ List.replicate n 0 ++ L.drop (off + n) = L' := by (first | assumption | rfl)) (hm : nvL m = m' := by (simp only [nvL, killV] <;> rfl)) (hP : cx.P = P := by assumption) (hn : cx.n = N := by assumption) (hgd : GOk ops ⟨lk l, mkM m⟩ gd := by (first | exact trivial | exact ⟨_, rfl, by (simp only [lk, reduceIte, Nat.reduceEqDiff])⟩)) :
    Chain cx ops (⟨none, .call { callee := .builtin .clear, args := #[x], argTypes := #[t] }, ty, p, af, gd⟩ :: rest) ⟨lk l, mkM m⟩ K := by
  subst hP; subst hL; subst hm
  refine ⟨_, gstep_of hgd (.sem fun _ a w h => clear_does h rfl rfl hx he hz hst hle), ?_⟩
  simp only [noViews_mkM, upd_mkM]
  exact kk
/-- The same of an empty part. -/
theorem qcl0 (he : elemP P t = some e) (kk : Chain cx ops rest ⟨lk l, mkM m⟩ K) (hx : St.look ⟨lk l, mkM m⟩ x = (.dv (.list []), none) := by (simp only [St.look, St.ev, lk, mkM, blkOf, svOf, svOfCell, reduceIte, Nat.reduceAdd, Nat.reduceEqDiff, Nat.reduceMul] <;> rfl)) (hP : cx.P = P := by assumption) (hn : cx.n = N := by assumption) (hgd : GOk ops ⟨lk l, mkM m⟩ gd := by (first | exact trivial | exact ⟨_, rfl, by (simp only [lk, reduceIte, Nat.reduceEqDiff])⟩)) :
    Chain cx ops (⟨none, .call { callee := .builtin .clear, args := #[x], argTypes := #[t] }, ty, p, af, gd⟩ :: rest) ⟨lk l, mkM m⟩ K := by
  subst hP
  refine ⟨_, gstep_of hgd (.sem fun _ a w h => ?_), kk⟩
  intro Q
  obtain ⟨μ, h⟩ := h
  have ex : St.ev ⟨lk l, mkM m⟩ x = .dv (.list []) := congrArg Prod.fst hx
  have hv := h.ev x
  rw [ex] at hv
  simp only [SVRep] at hv
  unfold Oper.wp
  have hu := elemP_spec he
  have hr : (Builtin.clear_ #[t] ty #[a.eval x]).run cx.P w = .ok (.tuple #[]) w := by
    generalize a.eval x = v at hv
    cases hv with
    | listNil ad cap => cases ad <;> simp [Builtin.clear_, run_underlying hu]
    | list _ b o cap esz u h1 h2 h3 h4 h5 h6 => simp [Builtin.clear_, run_underlying hu]
  have := builtin_exec (a := a) (o := ⟨none, .call { callee := .builtin .clear, args := #[x], argTypes := #[t] }, ty, p, af, gd⟩) (P := cx.P) (b := .clear) (args := #[x]) (ts := #[t]) (v := .tuple #[]) (w := w) (w' := w) rfl (by
    simp only [builtin, Sem.run_bind, List.map_toArray, List.map_cons, List.map_nil, hr, Result.andThen_ok]
    rfl)
  rw [this]
  exact ⟨μ, h⟩
end
end Go.Ab

