/- The abstract layer, part 11: append, the operation; stores; cuts; lengths; small operations. -/
import Derived.Test.YtjlfgobbieljoaaAb10
namespace Go.Ab
open Go.RowKit

section
variable {cx : Cx} {S S' : St} {a : Act} {w : World} {μ : Nat → Option (Nat × Nat)} {o : Oper}

theorem append_exec {t tx : TypeId} {s x : Operand} (ho : o.op = .call { callee := .builtin .append, args := #[s, x], argTypes := #[t, tx] }) {v w'} (h : (Builtin.append_ #[t, tx] o.type #[a.eval s, a.eval x]).run cx.P w = .ok v w') :
    (execOp a.eval o).run cx.P w = .ok (.value v) w' := by
  unfold execOp
  simp only [ho, resolve, invoke, builtin, Sem.run_bind, Sem.run_pure, Result.andThen_ok, List.map_toArray, List.map_cons, List.map_nil, h]

/-- From a grown or nil row to the state of the operation. -/
theorem append_fin {S0 : St} (hF : S0.F = S.F) (hd0 : ∀ d, (S0.M d).1 = (S.M d).1) {d : Nat} (hdn : d < cx.n) {blk : Blk} {k : Nat} {v' : Value} {w' : World} {μ' : Nat → Option (Nat × Nat)} (hdst : o.dst = some d)
    (hrun : (execOp a.eval o).run cx.P w = .ok (.value v') w')
    (h1 : SimU cx ⟨S0.F, upd S0.M d ((S0.M d).1 + 1, some blk)⟩ a w' μ')
    (h2 : SVRep w' (upd S0.M d ((S0.M d).1 + 1, some blk)) μ' (XX cx (upd S0.M d ((S0.M d).1 + 1, some blk)) μ') (.sl d ((S0.M d).1 + 1) 0 k) v') :
    Runs cx ⟨upd S.F d (.sl d ((S.M d).1 + 1) 0 k), upd S0.M d ((S.M d).1 + 1, some blk)⟩ o a w := by
  refine ⟨v', w', μ', .inl hrun, ?_⟩
  rw [hdst, ← hF, ← hd0]
  exact h1.set (S := ⟨S0.F, upd S0.M d ((S0.M d).1 + 1, some blk)⟩) hdn h2

theorem append_runs (h : SimU cx S a w μ) {t tx : TypeId} {s x : Operand} (ho : o.op = .call { callee := .builtin .append, args := #[s, x], argTypes := #[t, tx] }) {out : Out}
    (hr : appendOut cx.P t tx (S.look s) (S.look x) = some out) (ha : S.apply cx.n o.dst out = some S') : Runs cx S' o a w := by
  have hs := h.ev s
  have hx := h.ev x
  unfold appendOut at hr
  split at hr
  · rename_i e ex he hex
    have hu := elemP_spec he
    have hux := elemP_spec hex
    split at hr
    · rename_i sz by' zs hsz hby hz
      unfold zeroP at hz
      split at hz
      · rename_i i hi
        obtain ⟨z, hz', rfl⟩ := Option.map_eq_some_iff.1 hz
        simp only [szP, bytesP, hi, Option.map_some, Option.some.injEq] at hsz hby
        subst hsz
        subst hby
        split at hr
        · rename_i n news hsrc
          obtain ⟨nv, hSrc, hnews⟩ := src_rep (w := w) h hsrc hx hux
          generalize hlk : S.look s = ls at hr
          split at hr
          · rename_i q
            have es : S.ev s = .nils := by have := congrArg Prod.fst hlk; exact this
            rw [es] at hs
            simp only [SVRep] at hs
            split at hr
            · rename_i hc
              simp only [Option.some.injEq] at hr
              subst hr
              cases hd : o.dst with
              | none => rw [hd] at ha; simp [St.apply] at ha
              | some d =>
                rw [hd] at ha
                simp only [St.apply] at ha
                split at ha
                · rename_i hdn
                  simp only [Option.some.injEq] at ha
                  subst ha
                  have hzl : z.cells.size = i.size := by simpa using hc.2.2
                  by_cases hn : n = 0
                  · subst hn
                    have hnl : news = [] := List.eq_nil_of_length_eq_zero (by have q1 := hSrc.newsLen; have q2 := hnews.length; rw [Nat.zero_mul] at q1; omega)
                    subst hnl
                    obtain ⟨v', w', μ', r1, r2, r3⟩ := append_none (ty := o.type) h hu hi hSrc d
                    exact append_fin rfl (fun _ => rfl) hdn hd (append_exec ho (by rw [hs]; exact r1)) r2 r3
                  · obtain ⟨v', w', μ', r1, r2, r3⟩ := append_grown (ty := o.type) h hu hi hz' hzl none 0 0 n [] nv (run_firstCells_none w.drew i.size 0 0 0) (by simp) hSrc (by omega) (by omega) (by simpa using hc.2.1) (os := []) (ns := news) trivial hnews d
                    simp only [Nat.zero_add, List.nil_append] at r2 r3
                    exact append_fin rfl (fun _ => rfl) hdn hd (append_exec ho (by rw [hs]; exact r1)) r2 r3
                · cases ha
            · cases hr
          · rename_i t' g m blk
            have es : S.ev s = .sl t' g 0 m := by have := congrArg Prod.fst hlk; exact this
            have eb : blkOf S.M (S.ev s) = some blk := by have := congrArg Prod.snd hlk; exact this
            rw [es] at hs eb
            have hM := blkOf_sl eb
            simp only [SVRep] at hs
            have hs2 := hs.2 blk hM
            split at hr
            · rename_i hc
              obtain ⟨c1, c2, c3, c4, c5, c6, c7⟩ := hc
              simp only [Option.some.injEq] at hr
              subst hr
              have hzl : z.cells.size = i.size := by simpa using c7
              cases hd : o.dst with
              | none => rw [hd] at ha; simp [St.apply] at ha
              | some d =>
                rw [hd] at ha
                simp only [St.apply, hM] at ha
                split at ha
                · rename_i hdn
                  split at ha
                  · rename_i hst
                    simp only [Option.some.injEq] at ha
                    subst ha
                    have hlow := h.lower hM (st := 2) (by omega) (.inl hst)
                    have hgen : ∀ d', (upd S.M t' (g, some { blk with st := 2 }) d').1 = (S.M d').1 := fun d' => by
                      by_cases hq : d' = t'
                      · subst hq; rw [upd_same, hM]
                      · rw [upd_ne _ _ _ _ hq]
                    have hkeep : ∀ (cs : List SV) (vs : List Value), SVReps w S.M μ (XX cx S.M μ) cs vs → SVReps w (upd S.M t' (g, some { blk with st := 2 })) μ (XX cx (upd S.M t' (g, some { blk with st := 2 })) μ) cs vs := fun cs vs hh => by
                      have hown : ∀ b, Own (upd S.M t' (g, some { blk with st := 2 })) μ b → Own S.M μ b := by
                        rintro b ⟨t2, g2, blk2, cap2, e1, e2, e3⟩
                        by_cases hq : t2 = t'
                        · subst hq; rw [upd_same] at e1; simp only [Prod.mk.injEq, Option.some.injEq] at e1; rw [← e1.2] at e2; simp [OwS] at e2
                        · rw [upd_ne _ _ _ _ hq] at e1; exact ⟨t2, g2, blk2, cap2, e1, e2, e3⟩
                      refine SVReps.mono (Nat.le_refl _) (fun b _ hxx => ⟨rfl, fun ho => hxx (ho.imp (hown b) id)⟩) (fun q => by rw [hgen]; exact Nat.le_refl _) (fun q g' blk' e' _ => ?_) cs vs hh
                      by_cases hq : q = t'
                      · subst hq; rw [upd_same] at e'; simp only [Prod.mk.injEq, Option.some.injEq] at e'; obtain ⟨rfl, rfl⟩ := e'; exact ⟨blk, hM, rfl, rfl⟩
                      · rw [upd_ne _ _ _ _ hq] at e'; exact ⟨blk', e', rfl, rfl⟩
                    have hb := h.blk t' g blk hM
                    unfold BlkRep at hb
                    have hnew : ({ blk with cells := blk.cells ++ news, st := 0 } : Blk) = ⟨blk.cells ++ news, i.size, e, 0, true⟩ := by cases blk; simp_all
                    cases hm : μ t' with
                    | none =>
                      rw [hm] at hs2 hb
                      simp only at hs2 hb
                      obtain ⟨hv, rfl, _⟩ := hs2
                      have hnew0 : ({ blk with cells := blk.cells ++ news, st := 0 } : Blk) = ⟨news, i.size, e, 0, true⟩ := by rw [hnew, hb.1, List.nil_append]
                      rw [hnew0]
                      by_cases hn : n = 0
                      · subst hn
                        have hnl : news = [] := List.eq_nil_of_length_eq_zero (by have q1 := hSrc.newsLen; have q2 := hnews.length; rw [Nat.zero_mul] at q1; omega)
                        subst hnl
                        obtain ⟨v', w', μ', r1, r2, r3⟩ := append_none (ty := o.type) hlow hu hi hSrc d
                        exact append_fin (S := S) (S0 := ⟨S.F, upd S.M t' (g, some { blk with st := 2 })⟩) rfl hgen hdn hd (append_exec ho (by rw [hv]; exact r1)) r2 r3
                      · obtain ⟨v', w', μ', r1, r2, r3⟩ := append_grown (ty := o.type) hlow hu hi hz' hzl none 0 0 n [] nv (run_firstCells_none w.drew i.size 0 0 0) (by simp) hSrc (by omega) (by omega) (by simpa using c6) (os := []) (ns := news) trivial (hkeep _ _ hnews) d
                        simp only [Nat.zero_add, List.nil_append] at r2 r3 ⊢
                        exact append_fin (S := S) (S0 := ⟨S.F, upd S.M t' (g, some { blk with st := 2 })⟩) rfl hgen hdn hd (append_exec ho (by rw [hv]; exact r1)) r2 r3
                    | some p =>
                      obtain ⟨b, cap⟩ := p
                      rw [hm] at hs2 hb
                      simp only at hs2 hb
                      obtain ⟨hv, hcap⟩ := hs2
                      obtain ⟨cur, q1, q2, q3, q4, _⟩ := hb
                      obtain ⟨q4, q5⟩ := q4 c1
                      simp only [Nat.zero_mul, Nat.sub_zero, Nat.zero_add] at hv hcap
                      rw [c2] at q4
                      by_cases hroom : m + n ≤ cap
                      · have hcell : ∀ j, j < nv.length → blk.cells.length + nv.length ≤ cur.size := fun _ _ => by
                          have := hSrc.newsLen
                          rw [c4, q4, this, ← Nat.add_mul]
                          exact Nat.mul_le_mul_right _ hroom
                        have hfit : blk.cells.length + nv.length ≤ cur.size := by
                          have := hSrc.newsLen
                          rw [c4, q4, this, ← Nat.add_mul]
                          exact Nat.mul_le_mul_right _ hroom
                        have hst' := run_storeCells_at cx.P b (m * i.size) blk.elem nv 0 cur w q1 (by rw [← c4]; simpa using hfit) hSrc.one
                        simp only [Nat.add_zero] at hst'
                        have hrun : (Builtin.append_ #[t, tx] o.type #[.slice (some ⟨b, 0, none⟩) m cap, a.eval x]).run cx.P w =
                            .ok (.slice (some ⟨b, 0, none⟩) (m + n) cap) (w.setRow b (cur.toList.take (m * i.size) ++ nv ++ cur.toList.drop (m * i.size + nv.length)).toArray) := by
                          simp [Builtin.append_, run_underlying hu, run_underlying hux, sizeOf, typeInfo, hi, hSrc.len, hroom, hSrc.cells, Addr.add_lit, hst']
                        have hA := h.appendRoom d hM hst c1 hm q1 news nv hnews.length (fun j c u hc hu' => hnews.get j c u hc hu') hfit
                        rw [c4] at hA
                        refine ⟨_, _, upd μ d (some (b, cap)), .inl (append_exec ho (by rw [hv]; exact hrun)), ?_⟩
                        rw [hd]
                        refine SimU.set hA hdn ?_
                        simp only [SVRep]
                        refine ⟨⟨rfl, by rw [upd_same]; exact Nat.le_refl _⟩, fun blk' e' => ?_⟩
                        rw [upd_same]
                        simp only [Nat.zero_mul, Nat.sub_zero, Nat.zero_add]
                        exact ⟨trivial, hroom⟩
                      · rw [hnew]
                        have hold : (Builtin.firstCells i.size m (.slice (some ⟨b, 0, none⟩) m cap)).run cx.P w.drew = .ok (cur.toList.take (m * i.size)).toArray w.drew :=
                          run_firstCells_some (P := cx.P) w.drew i.size m ⟨b, 0, none⟩ m cap (cur.toList.take (m * i.size)) (by simp; omega) (fun j u hj => by
                            rw [List.getElem?_take] at hj
                            split at hj
                            · rw [Addr.add_lit]
                              have : w.drew.cell? ⟨b, 0 + j, none⟩ = w.cell? ⟨b, 0 + j, none⟩ := rfl
                              rw [this, cell_at q1]
                              simpa using hj
                            · cases hj)
                        have hos : SVReps w (upd S.M t' (g, some { blk with st := 2 })) μ (XX cx (upd S.M t' (g, some { blk with st := 2 })) μ) blk.cells (cur.toList.take (m * i.size)) := by
                          refine hkeep _ _ (SVReps.mk (by simp; omega) fun j c u hc hu' => ?_)
                          rw [List.getElem?_take] at hu'
                          split at hu'
                          · exact q3 j c u hc (by simpa using hu')
                          · cases hu'
                        obtain ⟨v', w', μ', r1, r2, r3⟩ := append_grown (ty := o.type) hlow hu hi hz' hzl (some ⟨b, 0, none⟩) m cap n (cur.toList.take (m * i.size)) nv hold (by simp; omega) hSrc (by omega) (by omega) c6 hos (hkeep _ _ hnews) d
                        exact append_fin (S := S) (S0 := ⟨S.F, upd S.M t' (g, some { blk with st := 2 })⟩) rfl hgen hdn hd (append_exec ho (by rw [hv]; exact r1)) r2 r3
                  · cases ha
                · cases ha
            · cases hr
          · cases hr
        · cases hr
      · cases hz
    · cases hr
  · cases hr

end
end Go.Ab
