/- Ab11, Ab12, Ab13, Ab14. -/
import Derived.Test.YtjlfgobbieljoaaDoorBogG03
import Derived.Laws.BytesString
set_option linter.all false
namespace Go.Ab
open Go.RowKit
section
variable {cx : Cx} {S S' : St} {a : Act} {w : World} {μ : Nat → Option (Nat × Nat)} {o : Oper}
theorem append_exec {t tx : TypeId} {s x : Operand} (ho : o.op = .call { callee := .builtin .append, args := #[s, x], argTypes := #[t, tx] }) {v w'} (h : (Builtin.append_ #[t, tx] o.type #[a.eval s, a.eval x]).run cx.P w = .ok v w') :
    (execOp a.eval o).run cx.P w = .ok (.value v) w' := by
  unfold execOp
  simp only [ho, resolve, invoke, builtin, Sem.run_bind, Sem.run_pure, Result.andThen_ok, List.map_toArray, List.map_cons, List.map_nil, h]
theorem append_fin {S0 : St} (hF : S0.F = S.F) (hd0 : ∀ d, (S0.M d).1 = (S.M d).1) {d : Nat} (hdn : d < cx.n) {blk : Blk} {k : Nat} {v' : Value} {w' : World} {μ' : Nat → Option (Nat × Nat)} (hdst : o.dst = some d)
    (hrun : (execOp a.eval o).run cx.P w = .ok (.value v') w')
    (h1 : SimU cx ⟨S0.F, upd S0.M d ((S0.M d).1 + 1, some blk)⟩ a w' μ')
    (h2 : SVRep w' (upd S0.M d ((S0.M d).1 + 1, some blk)) μ' (XX cx (upd S0.M d ((S0.M d).1 + 1, some blk)) μ') (.sl d ((S0.M d).1 + 1) 0 k) v') :
    Runs cx ⟨upd S.F d (.sl d ((S.M d).1 + 1) 0 k), upd S0.M d ((S.M d).1 + 1, some blk)⟩ o a w := by
  refine ⟨v', w', μ', .inl hrun, ?_⟩
  rw [hdst, ← hF, ← hd0]
  exact h1.set (S := ⟨S0.F, upd S0.M d ((S0.M d).1 + 1, some blk)⟩) hdn h2
theorem append_runs (h : SimU cx S a w μ) {t tx : TypeId} {s x : Operand} (ho : o.op = .call { callee := .builtin .append, args := #[s, x], argTypes := #[t, tx] }) {out : Out}
    (hr : appendOut cx.P t tx (S.look s) (S.look x) = some out) (ha : S.apply cx.n o.dst out = some S') : Runs cx S' o a w := by
  have hs := h.ev s
  have hx := h.ev x
  unfold appendOut at hr
  split at hr
  · rename_i e ex he hex
    have hu := elemP_spec he
    have hux := elemP_spec hex
    split at hr
    · rename_i sz by' zs hsz hby hz
      unfold zeroP at hz
      split at hz
      · rename_i i hi
        obtain ⟨z, hz', rfl⟩ := Option.map_eq_some_iff.1 hz
        simp only [szP, bytesP, hi, Option.map_some, Option.some.injEq] at hsz hby
        subst hsz
        subst hby
        split at hr
        · rename_i n news hsrc
          obtain ⟨nv, hSrc, hnews⟩ := src_rep (w := w) h hsrc hx hux
          generalize hlk : S.look s = ls at hr
          split at hr
          · rename_i q
            have es : S.ev s = .nils := by have := congrArg Prod.fst hlk; exact this
            rw [es] at hs
            simp only [SVRep] at hs
            split at hr
            · rename_i hc
              simp only [Option.some.injEq] at hr
              subst hr
              cases hd : o.dst with
              | none => rw [hd] at ha; simp [St.apply] at ha
              | some d =>
                rw [hd] at ha
                simp only [St.apply] at ha
                split at ha
                · rename_i hdn
                  simp only [Option.some.injEq] at ha
                  subst ha
                  have hzl : z.cells.size = i.size := by simpa using hc.2.2
                  by_cases hn : n = 0
                  · subst hn
                    have hnl : news = [] := List.eq_nil_of_length_eq_zero (by have q1 := hSrc.newsLen; have q2 := hnews.length; rw [Nat.zero_mul] at q1; omega)
                    subst hnl
                    obtain ⟨v', w', μ', r1, r2, r3⟩ := append_none (ty := o.type) h hu hi hSrc d
                    exact append_fin rfl (fun _ => rfl) hdn hd (append_exec ho (by rw [hs]; exact r1)) r2 r3
                  · obtain ⟨v', w', μ', r1, r2, r3⟩ := append_grown (ty := o.type) h hu hi hz' hzl none 0 0 n [] nv (run_firstCells_none w.drew i.size 0 0 0) (by simp) hSrc (by omega) (by omega) (by simpa using hc.2.1) (os := []) (ns := news) trivial hnews d
                    simp only [Nat.zero_add, List.nil_append] at r2 r3
                    exact append_fin rfl (fun _ => rfl) hdn hd (append_exec ho (by rw [hs]; exact r1)) r2 r3
                · cases ha
            · cases hr
          · rename_i t' g m blk
            have es : S.ev s = .sl t' g 0 m := by have := congrArg Prod.fst hlk; exact this
            have eb : blkOf S.M (S.ev s) = some blk := by have := congrArg Prod.snd hlk; exact this
            rw [es] at hs eb
            have hM := blkOf_sl eb
            simp only [SVRep] at hs
            have hs2 := hs.2 blk hM
            split at hr
            · rename_i hc
              obtain ⟨c1, c2, c3, c4, c5, c6, c7⟩ := hc
              simp only [Option.some.injEq] at hr
              subst hr
              have hzl : z.cells.size = i.size := by simpa using c7
              cases hd : o.dst with
              | none => rw [hd] at ha; simp [St.apply] at ha
              | some d =>
                rw [hd] at ha
                simp only [St.apply, hM] at ha
                split at ha
                · rename_i hdn
                  split at ha
                  · rename_i hst
                    simp only [Option.some.injEq] at ha
                    subst ha
                    have hlow := h.lower hM (st := 2) (by omega) (.inl hst)
                    have hgen : ∀ d', (upd S.M t' (g, some { blk with st := 2 }) d').1 = (S.M d').1 := fun d' => by
                      by_cases hq : d' = t'
                      · subst hq; rw [upd_same, hM]
                      · rw [upd_ne _ _ _ _ hq]
                    have hkeep : ∀ (cs : List SV) (vs : List Value), SVReps w S.M μ (XX cx S.M μ) cs vs → SVReps w (upd S.M t' (g, some { blk with st := 2 })) μ (XX cx (upd S.M t' (g, some { blk with st := 2 })) μ) cs vs := fun cs vs hh => by
                      have hown : ∀ b, Own (upd S.M t' (g, some { blk with st := 2 })) μ b → Own S.M μ b := by
                        rintro b ⟨t2, g2, blk2, cap2, e1, e2, e3⟩
                        by_cases hq : t2 = t'
                        · subst hq; rw [upd_same] at e1; simp only [Prod.mk.injEq, Option.some.injEq] at e1; rw [← e1.2] at e2; simp [OwS] at e2
                        · rw [upd_ne _ _ _ _ hq] at e1; exact ⟨t2, g2, blk2, cap2, e1, e2, e3⟩
                      refine SVReps.mono (Nat.le_refl _) (fun b _ hxx => ⟨rfl, fun ho => hxx (ho.imp (hown b) id)⟩) (fun q => by rw [hgen]; exact Nat.le_refl _) (fun q g' blk' e' _ => ?_) cs vs hh
                      by_cases hq : q = t'
                      · subst hq; rw [upd_same] at e'; simp only [Prod.mk.injEq, Option.some.injEq] at e'; obtain ⟨rfl, rfl⟩ := e'; exact ⟨blk, hM, rfl, rfl⟩
                      · rw [upd_ne _ _ _ _ hq] at e'; exact ⟨blk', e', rfl, rfl⟩
                    have hb := h.blk t' g blk hM
                    unfold BlkRep at hb
                    have hnew : ({ blk with cells := blk.cells ++ news, st := 0 } : Blk) = ⟨blk.cells ++ news, i.size, e, 0, true⟩ := by cases blk; simp_all
                    cases hm : μ t' with
                    | none =>
                      rw [hm] at hs2 hb
                      simp only at hs2 hb
                      obtain ⟨hv, rfl, _⟩ := hs2
                      have hnew0 : ({ blk with cells := blk.cells ++ news, st := 0 } : Blk) = ⟨news, i.size, e, 0, true⟩ := by rw [hnew, hb.1, List.nil_append]
                      rw [hnew0]
                      by_cases hn : n = 0
                      · subst hn
                        have hnl : news = [] := List.eq_nil_of_length_eq_zero (by have q1 := hSrc.newsLen; have q2 := hnews.length; rw [Nat.zero_mul] at q1; omega)
                        subst hnl
                        obtain ⟨v', w', μ', r1, r2, r3⟩ := append_none (ty := o.type) hlow hu hi hSrc d
                        exact append_fin (S := S) (S0 := ⟨S.F, upd S.M t' (g, some { blk with st := 2 })⟩) rfl hgen hdn hd (append_exec ho (by rw [hv]; exact r1)) r2 r3
                      · obtain ⟨v', w', μ', r1, r2, r3⟩ := append_grown (ty := o.type) hlow hu hi hz' hzl none 0 0 n [] nv (run_firstCells_none w.drew i.size 0 0 0) (by simp) hSrc (by omega) (by omega) (by simpa using c6) (os := []) (ns := news) trivial (hkeep _ _ hnews) d
                        simp only [Nat.zero_add, List.nil_append] at r2 r3 ⊢
                        exact append_fin (S := S) (S0 := ⟨S.F, upd S.M t' (g, some { blk with st := 2 })⟩) rfl hgen hdn hd (append_exec ho (by rw [hv]; exact r1)) r2 r3
                    | some p =>
                      obtain ⟨b, cap⟩ := p
                      rw [hm] at hs2 hb
                      simp only at hs2 hb
                      obtain ⟨hv, hcap⟩ := hs2
                      obtain ⟨cur, q1, q2, q3, q4, _⟩ := hb
                      obtain ⟨q4, q5⟩ := q4 c1
                      simp only [Nat.zero_mul, Nat.sub_zero, Nat.zero_add] at hv hcap
                      rw [c2] at q4
                      by_cases hroom : m + n ≤ cap
                      · have hcell : ∀ j, j < nv.length → blk.cells.length + nv.length ≤ cur.size := fun _ _ => by
                          have := hSrc.newsLen
                          rw [c4, q4, this, ← Nat.add_mul]
                          exact Nat.mul_le_mul_right _ hroom
                        have hfit : blk.cells.length + nv.length ≤ cur.size := by
                          have := hSrc.newsLen
                          rw [c4, q4, this, ← Nat.add_mul]
                          exact Nat.mul_le_mul_right _ hroom
                        have hst' := run_storeCells_at cx.P b (m * i.size) blk.elem nv 0 cur w q1 (by rw [← c4]; simpa using hfit) hSrc.one
                        simp only [Nat.add_zero] at hst'
                        have hrun : (Builtin.append_ #[t, tx] o.type #[.slice (some ⟨b, 0, none⟩) m cap, a.eval x]).run cx.P w =
                            .ok (.slice (some ⟨b, 0, none⟩) (m + n) cap) (w.setRow b (cur.toList.take (m * i.size) ++ nv ++ cur.toList.drop (m * i.size + nv.length)).toArray) := by
                          simp [Builtin.append_, run_underlying hu, run_underlying hux, sizeOf, typeInfo, hi, hSrc.len, hroom, hSrc.cells, Addr.add_lit, hst']
                        have hA := h.appendRoom d hM hst c1 hm q1 news nv hnews.length (fun j c u hc hu' => hnews.get j c u hc hu') hfit
                        rw [c4] at hA
                        refine ⟨_, _, upd μ d (some (b, cap)), .inl (append_exec ho (by rw [hv]; exact hrun)), ?_⟩
                        rw [hd]
                        refine SimU.set hA hdn ?_
                        simp only [SVRep]
                        refine ⟨⟨rfl, by rw [upd_same]; exact Nat.le_refl _⟩, fun blk' e' => ?_⟩
                        rw [upd_same]
                        simp only [Nat.zero_mul, Nat.sub_zero, Nat.zero_add]
                        exact ⟨trivial, hroom⟩
                      · rw [hnew]
                        have hold : (Builtin.firstCells i.size m (.slice (some ⟨b, 0, none⟩) m cap)).run cx.P w.drew = .ok (cur.toList.take (m * i.size)).toArray w.drew :=
                          run_firstCells_some (P := cx.P) w.drew i.size m ⟨b, 0, none⟩ m cap (cur.toList.take (m * i.size)) (by simp; omega) (fun j u hj => by
                            rw [List.getElem?_take] at hj
                            split at hj
                            · rw [Addr.add_lit]
                              have : w.drew.cell? ⟨b, 0 + j, none⟩ = w.cell? ⟨b, 0 + j, none⟩ := rfl
                              rw [this, cell_at q1]
                              simpa using hj
                            · cases hj)
                        have hos : SVReps w (upd S.M t' (g, some { blk with st := 2 })) μ (XX cx (upd S.M t' (g, some { blk with st := 2 })) μ) blk.cells (cur.toList.take (m * i.size)) := by
                          refine hkeep _ _ (SVReps.mk (by simp; omega) fun j c u hc hu' => ?_)
                          rw [List.getElem?_take] at hu'
                          split at hu'
                          · exact q3 j c u hc (by simpa using hu')
                          · cases hu'
                        obtain ⟨v', w', μ', r1, r2, r3⟩ := append_grown (ty := o.type) hlow hu hi hz' hzl (some ⟨b, 0, none⟩) m cap n (cur.toList.take (m * i.size)) nv hold (by simp; omega) hSrc (by omega) (by omega) c6 hos (hkeep _ _ hnews) d
                        exact append_fin (S := S) (S0 := ⟨S.F, upd S.M t' (g, some { blk with st := 2 })⟩) rfl hgen hdn hd (append_exec ho (by rw [hv]; exact r1)) r2 r3
                  · cases ha
                · cases ha
            · cases hr
          · cases hr
        · cases hr
      · cases hz
    · cases hr
  · cases hr
end
end Go.Ab
namespace Go.Ab
open Go.RowKit
section
variable {cx : Cx} {S S' : St} {a : Act} {w : World} {μ : Nat → Option (Nat × Nat)} {o : Oper}
def storeOut (P : Program) (t : TypeId) (x : SV × Option Blk) (v : SV) : Option Out :=
  match x, szP P t, cellsSV v with
  | (.pt t' _ k, some blk), some sz, some cs =>
    if cs.length = sz ∧ cs.all cellOk = true ∧ k + cs.length ≤ blk.cells.length then some (.put t' { blk with cells := putCells blk.cells k cs }) else none
  | _, _, _ => none
theorem store_runs (h : SimU cx S a w μ) {t : TypeId} {x y : Operand} (ho : o.op = .store t x y) {out : Out} (hr : storeOut cx.P t (S.look x) (S.ev y) = some out) (ha : S.apply cx.n o.dst out = some S') : Runs cx S' o a w := by
  have hx := h.ev x
  have hy := h.ev y
  unfold storeOut at hr
  generalize hlk : S.look x = lx at hr
  split at hr
  · rename_i t' g k blk sz cs hs hcs
    have ex : S.ev x = .pt t' g k := congrArg Prod.fst hlk
    have eb : blkOf S.M (S.ev x) = some blk := congrArg Prod.snd hlk
    rw [ex] at hx eb
    have hM := blkOf_pt eb
    split at hr
    · rename_i hc
      obtain ⟨c1, c2, c3⟩ := hc
      simp only [Option.some.injEq] at hr
      subst hr
      cases hd : o.dst with
      | some d => rw [hd] at ha; simp [St.apply] at ha
      | none =>
        rw [hd] at ha
        simp only [St.apply, hM] at ha
        split at ha
        · rename_i hst
          simp only [Option.some.injEq] at ha
          subst ha
          simp only [SVRep] at hx
          obtain ⟨b, cap, hm, hv⟩ := hx.2 blk hM
          have hb := h.blk t' g blk hM
          unfold BlkRep at hb
          rw [hm] at hb
          simp only at hb
          obtain ⟨cur, q1, q2, q3, q4, q5⟩ := hb
          have hrep := cellsSV_rep hcs hy
          have hl : (a.eval y).cells.toList.length = cs.length := hrep.length
          have h1 : ∀ u ∈ (a.eval y).cells.toList, u.oneCell' = true := fun u hu => by
            obtain ⟨j, hj, rfl⟩ := List.getElem_of_mem hu
            have hj' : j < cs.length := by omega
            exact cellOk_rep (List.all_eq_true.1 c2 _ (List.getElem_mem hj')) (hrep.get j _ _ (List.getElem?_eq_getElem hj') (List.getElem?_eq_getElem hj))
          have hst' := run_storeCells_at cx.P b k blk.elem (a.eval y).cells.toList 0 cur w q1 (by omega) h1
          simp only [Nat.add_zero] at hst'
          have hW := h.write hM hst hm q1 k cs (a.eval y).cells.toList hl (fun j c u hc hu => hrep.get j c u hc hu) c3
          refine ⟨undef, w.setRow b (putCells cur.toList k (a.eval y).cells.toList).toArray, μ, .inr ⟨?_, rfl⟩, ?_⟩
          · unfold szP at hs
            obtain ⟨i, hi, hi2⟩ := Option.map_eq_some_iff.1 hs
            have hsz : (a.eval y).cells.size = i.size := by rw [hi2, ← c1]; simpa using hl
            unfold execOp
            simp only [ho, hv, Instr.storeAt, Instr.sureAddr, storeVar, Sem.run_bind, Sem.run_pure, Result.andThen_ok, sizeOf, typeInfo, run_program, hi, hsz, ne_eq, not_true_eq_false, if_false, hst']
            rfl
          · rw [hd]
            exact hW
        · cases ha
    · cases hr
  · cases hr
theorem bound_run {P : Program} {k : IntKind} {n : Int} {y : Nat} {code : BoundsCode} (h0 : 0 ≤ n) (h1 : n ≤ y) (w : World) : (Instr.sliceBound (.int k n) y code).run P w = .ok n.toNat w := by
  simp [Instr.sliceBound, asIntOf, h0, h1]
theorem bounds_run {P : Program} {isS : Bool} {len cap : Nat} {lo hi mx : Option Value} {n m k : Int} (hlo : lo = none ∧ n = 0 ∨ ∃ q, lo = some (.int q n)) (hhi : hi = none ∧ m = len ∧ mx = none ∨ ∃ q, hi = some (.int q m))
    (hmx : mx = none ∧ k = cap ∨ ∃ q, mx = some (.int q k)) (h0 : 0 ≤ n) (h1 : n ≤ m) (h2 : m ≤ k) (h3 : k ≤ cap) (w : World) :
    (Instr.sliceBounds isS len cap lo hi mx).run P w = .ok (n.toNat, m.toNat, k.toNat) w := by
  have b1 : ∀ q code, (Instr.sliceBound (.int q n) m.toNat code).run P w = .ok n.toNat w := fun q code => bound_run h0 (by omega) w
  have b2 : ∀ q code, (Instr.sliceBound (.int q m) k.toNat code).run P w = .ok m.toNat w := fun q code => bound_run (by omega) (by omega) w
  have b2' : ∀ q code, (Instr.sliceBound (.int q m) cap code).run P w = .ok m.toNat w := fun q code => bound_run (by omega) (by omega) w
  have b3 : ∀ q code, (Instr.sliceBound (.int q k) cap code).run P w = .ok k.toNat w := fun q code => bound_run (by omega) h3 w
  have e0 : n = 0 → n.toNat = 0 := fun h => by omega
  have e1 : m = len → m.toNat = len := fun h => by omega
  have e2 : k = cap → k.toNat = cap := fun h => by omega
  rcases hmx with ⟨rfl, hk⟩ | ⟨q3, rfl⟩ <;> rcases hhi with ⟨rfl, hm, hc⟩ | ⟨q2, rfl⟩ <;> rcases hlo with ⟨rfl, hn⟩ | ⟨q1, rfl⟩
  · simp [Instr.sliceBounds, e0 hn, e1 hm, e2 hk]
  · have := b1 q1 .sliceB
    rw [e1 hm] at this
    simp [Instr.sliceBounds, this, e1 hm, e2 hk]
  · simp [Instr.sliceBounds, e0 hn, b2', e2 hk]
  · simp [Instr.sliceBounds, b1, b2', e2 hk]
  · cases hc
  · cases hc
  · simp [Instr.sliceBounds, b2, b3, e0 hn]
  · simp [Instr.sliceBounds, b1, b2, b3]
end
end Go.Ab
namespace Go.Ab
open Go.RowKit
set_option linter.unusedVariables false
section
variable {cx : Cx} {S S' : St} {a : Act} {w : World} {μ : Nat → Option (Nat × Nat)} {o : Oper}
def numOf (d : Int) : Option SV → Option Int
  | none => some d
  | some (.dv (.int _ n)) => some n
  | _ => none
def isStrP (P : Program) (t : TypeId) : Bool := match P.underlying t with | some .string => true | _ => false
def maxOf (len : Nat) (hi mx : Option SV) : Option Int :=
  match mx with
  | none => some len
  | some m => if hi.isSome then numOf 0 (some m) else none
def cutSV (P : Program) (t : TypeId) (x : SV × Option Blk) (lo hi mx : Option SV) : Option SV :=
  match x with
  | (.dv (.list l), _) =>
    match elemP P t, numOf 0 lo, numOf l.length hi, maxOf l.length hi mx with
    | some e, some n, some m, some k =>
      match szP P e with
      | some sz => if 0 ≤ n ∧ n ≤ m ∧ m ≤ k ∧ k ≤ l.length ∧ (l.all fun d => d.cells.length == sz) then some (.dv (.list ((l.drop n.toNat).take (m - n).toNat))) else none
      | none => none
    | _, _, _, _ => none
  | (.sl t' g k len, some blk) =>
    match mx, elemP P t, numOf 0 lo, numOf len hi with
    | none, some e, some n, some m => if 0 ≤ n ∧ n ≤ m ∧ m ≤ len ∧ szP P e = some blk.esz then (if n = m then (if n = 0 then some (.sl t' g k 0) else some (.dv (.list []))) else some (.sl t' g (k + n.toNat) (m - n).toNat)) else none
    | _, _, _, _ => none
  | (.dv (.str s), _) =>
    match mx, isStrP P t, numOf 0 lo, numOf s.size hi with
    | none, true, some n, some m => if 0 ≤ n ∧ n ≤ m ∧ m ≤ s.size then some (.dv (.str (s.extract n.toNat m.toNat))) else none
    | _, _, _, _ => none
  | _ => none
theorem num_rep (h : SimU cx S a w μ) {d n : Int} {x : Option Operand} (hn : numOf d (x.map S.ev) = some n) : x.map a.eval = none ∧ n = d ∧ x = none ∨ ∃ q, x.map a.eval = some (.int q n) := by
  cases x with
  | none => simp [numOf] at hn; exact .inl ⟨rfl, hn.symm, rfl⟩
  | some x =>
    have hx := h.ev x
    simp only [Option.map_some, numOf] at hn
    split at hn
    · rename_i h0; cases h0
    · rename_i k n' h0
      simp only [Option.some.injEq] at h0 hn
      subst hn
      rw [h0] at hx
      simp only [SVRep] at hx
      generalize hv : a.eval x = vx at *
      cases hx
      exact .inr ⟨k, by simp [hv]⟩
    · cases hn
theorem flat_drop : ∀ (l : List DV) (e : Nat), (∀ d ∈ l, d.cells.length = e) → ∀ n, flat (l.drop n) = (flat l).drop (n * e)
  | [], _, _, n => by simp [flat]
  | d :: l, e, h, 0 => by simp
  | d :: l, e, h, n + 1 => by
    have ih := flat_drop l e (fun d' hd => h d' (by simp [hd])) n
    have hd := h d (by simp)
    simp only [List.drop_succ_cons]
    rw [ih]
    simp only [flat, List.flatMap_cons]
    rw [Nat.add_mul, Nat.one_mul, Nat.add_comm, ← hd, ← List.drop_drop, List.drop_left]
theorem flat_take_get : ∀ (l : List DV) (k j : Nat) (c : DV), (flat (l.take k))[j]? = some c → (flat l)[j]? = some c := by
  intro l k j c h
  have : flat l = flat (l.take k) ++ flat (l.drop k) := by
    simp only [flat, ← List.flatMap_append, List.take_append_drop]
  rw [this, List.getElem?_append_left (List.getElem?_eq_some_iff.1 h).1]
  exact h
theorem cut_slice_run {P : Program} {t e : TypeId} {sz : Nat} (hu : P.underlying t = some (.slice e)) (hs : szP P e = some sz) {ad : Option Addr} {len cap : Nat} {lo hi mx : Option Value} {n m k : Int}
    (hb : ∀ w, (Instr.sliceBounds true len cap lo hi mx).run P w = .ok (n.toNat, m.toNat, k.toNat) w) (w : World) :
    (Instr.sliceAt t (.slice ad len cap) lo hi mx).run P w = .ok (.slice (if k.toNat = n.toNat then ad else ad.map (·.add (n.toNat * sz))) (m.toNat - n.toNat) (k.toNat - n.toNat)) w := by
  unfold szP at hs
  obtain ⟨i, hi', hi2⟩ := Option.map_eq_some_iff.1 hs
  simp [Instr.sliceAt, Instr.slice, run_underlying hu, hb, sizeOf, typeInfo, hi', hi2]
theorem cut_runs (h : SimU cx S a w μ) {t : TypeId} {x : Operand} {lo hi mx : Option Operand} (ho : o.op = .slice t x lo hi mx) {r : SV} (hr : cutSV cx.P t (S.look x) (lo.map S.ev) (hi.map S.ev) (mx.map S.ev) = some r)
    (ha : S.apply cx.n o.dst (.val r) = some S') : Runs cx S' o a w := by
  have hx := h.ev x
  unfold cutSV at hr
  generalize hlk : S.look x = lx at hr
  have fin : ∀ {v' : Value}, (Instr.sliceAt t (a.eval x) (lo.map a.eval) (hi.map a.eval) (mx.map a.eval)).run cx.P w = .ok v' w → SVRep w S.M μ (XX cx S.M μ) r v' → Runs cx S' o a w := by
    intro v' hrun hrep
    refine runs_val h (v := v') ?_ hrep ha
    unfold execOp
    simp only [ho, Sem.run_bind, hrun, Result.andThen_ok]
    rfl
  split at hr
  · rename_i l q
    have ex : S.ev x = .dv (.list l) := congrArg Prod.fst hlk
    rw [ex] at hx
    simp only [SVRep] at hx
    split at hr
    · rename_i e n m k he hn hm hk
      split at hr
      · rename_i sz hsz
        split at hr
        · rename_i hc
          obtain ⟨c0, c1, c2, c3, c4⟩ := hc
          simp only [Option.some.injEq] at hr
          subst hr
          have hu := elemP_spec he
          have hlo : lo.map a.eval = none ∧ n = 0 ∨ ∃ q, lo.map a.eval = some (.int q n) := (num_rep h hn).imp (fun ⟨a, b, _⟩ => ⟨a, b⟩) id
          have hall : ∀ d ∈ l, d.cells.length = sz := fun d hd => by
            have := List.all_eq_true.1 c4 d hd
            simpa using this
          have hmm : mx.map S.ev = none ∨ ∃ y, mx = some y ∧ hi.isSome = true ∧ numOf 0 (some (S.ev y)) = some k := by
            cases mx with
            | none => exact .inl rfl
            | some y =>
              right
              simp only [maxOf, Option.map_some] at hk
              split at hk
              · rename_i hs; exact ⟨y, rfl, by simpa using hs, hk⟩
              · cases hk
          have bnd : ∀ cap : Nat, l.length ≤ cap → ∃ k' : Int, m ≤ k' ∧ ((mx = none → k' = cap) ∧ (mx ≠ none → k' = k)) ∧ ∀ w, (Instr.sliceBounds true l.length cap (lo.map a.eval) (hi.map a.eval) (mx.map a.eval)).run cx.P w = .ok (n.toNat, m.toNat, k'.toNat) w := by
            intro cap hcap
            rcases hmm with hmm | ⟨y, rfl, hs, hk'⟩
            · have : mx = none := by simpa using hmm
              subst this
              refine ⟨(cap : Int), by omega, ⟨fun _ => rfl, fun hne => absurd rfl hne⟩, fun w => ?_⟩
              refine bounds_run hlo ?_ (.inl ⟨rfl, rfl⟩) c0 c1 (by omega) (by omega) w
              rcases num_rep h hm with ⟨h1, h2, h3⟩ | h1
              · exact .inl ⟨h1, h2, rfl⟩
              · exact .inr h1
            · refine ⟨k, c2, ⟨fun hne => by simp at hne, fun _ => rfl⟩, fun w => ?_⟩
              refine bounds_run hlo ?_ ?_ c0 c1 c2 (by omega) w
              · rcases num_rep h hm with ⟨h1, h2, h3⟩ | h1
                · subst h3; simp at hs
                · exact .inr h1
              · rcases num_rep h (x := some y) (d := 0) hk' with ⟨h1, _, _⟩ | h1
                · simp at h1
                · exact .inr (by simpa using h1)
          have nil : ∀ (ad : Option Addr) (cap : Nat) (k' : Int), m = n → a.eval x = .slice ad l.length cap → (∀ w, (Instr.sliceBounds true l.length cap (lo.map a.eval) (hi.map a.eval) (mx.map a.eval)).run cx.P w = .ok (n.toNat, m.toNat, k'.toNat) w) → Runs cx S' o a w := by
            intro ad cap k' hmn hv hb
            refine fin (by rw [hv]; exact cut_slice_run hu hsz hb w) ?_
            simp only [SVRep]
            have e1 : (m - n).toNat = 0 := by omega
            have e2 : m.toNat - n.toNat = 0 := by omega
            rw [e1, e2, List.take_zero]
            exact .listNil _ _
          generalize hv : a.eval x = vx at *
          cases hx with
          | listNil ad cap =>
            simp only [List.length_nil] at *
            obtain ⟨k', _, _, hb⟩ := bnd cap (by omega)
            exact nil ad cap k' (by omega) rfl hb
          | list _ b off cap esz u h1 h2 hcap h3 h4 h5 =>
            obtain ⟨k', hk1, hk2, hb⟩ := bnd cap hcap
            by_cases hmn : m = n
            · exact nil _ cap k' hmn rfl hb
            · have hrun := cut_slice_run hu hsz (ad := some ⟨b, off, none⟩) hb w
              rw [if_neg (by omega)] at hrun
              simp only [Option.map_some, Addr.add_lit] at hrun
              refine fin hrun ?_
              have hez : sz = esz := by
                have hl : 0 < l.length := by omega
                rw [← hall l[0] (List.getElem_mem hl), h3 l[0] (List.getElem_mem hl)]
              subst hez
              have hlen : ((l.drop n.toNat).take (m - n).toNat).length = m.toNat - n.toNat := by simp; omega
              have hsub : ∀ j c, (flat ((l.drop n.toNat).take (m - n).toNat))[j]? = some c → (flat l)[n.toNat * sz + j]? = some c := fun j c hj => by
                have := flat_take_get _ _ _ _ hj
                rwa [flat_drop l sz hall, List.getElem?_drop] at this
              simp only [SVRep]
              rw [← hlen]
              refine .list _ b (off + n.toNat * sz) _ sz (fun j => u (n.toNat * sz + j)) h1 h2 (by rw [hlen]; omega) (fun d hd => hall d (List.mem_of_mem_drop (List.mem_of_mem_take hd))) ?_ ?_
              · intro j c hj
                have := h4 _ c (hsub j c hj)
                rwa [← Nat.add_assoc] at this
              · intro j c hj
                exact h5 _ c (hsub j c hj)
        · cases hr
      · cases hr
    · cases hr
  · rename_i t' g k len blk
    have ex : S.ev x = .sl t' g k len := congrArg Prod.fst hlk
    have eb : blkOf S.M (S.ev x) = some blk := congrArg Prod.snd hlk
    rw [ex] at hx eb
    have hM := blkOf_sl eb
    simp only [SVRep] at hx
    have hx2 := hx.2 blk hM
    split at hr
    · rename_i e n m hmx he hn hm
      split at hr
      · rename_i hc
        obtain ⟨c0, c1, c2, c3⟩ := hc
        have hr' : r = (if n = m then (if n = 0 then .sl t' g k 0 else .dv (.list [])) else .sl t' g (k + n.toNat) (m - n).toNat) := by
          by_cases hq : n = m
          · rw [if_pos hq] at hr ⊢
            by_cases hq0 : n = 0
            · rw [if_pos hq0] at hr ⊢; exact (Option.some.inj hr).symm
            · rw [if_neg hq0] at hr ⊢; exact (Option.some.inj hr).symm
          · rw [if_neg hq] at hr ⊢; exact (Option.some.inj hr).symm
        clear hr
        subst hr'
        have hu := elemP_spec he
        have hmx' : mx = none := by cases mx with | none => rfl | some _ => simp at hmx
        subst hmx'
        have hlo : lo.map a.eval = none ∧ n = 0 ∨ ∃ q, lo.map a.eval = some (.int q n) := (num_rep h hn).imp (fun ⟨a, b, _⟩ => ⟨a, b⟩) id
        have hhi : hi.map a.eval = none ∧ m = len ∧ (none : Option Operand).map a.eval = none ∨ ∃ q, hi.map a.eval = some (.int q m) := (num_rep h hm).imp (fun ⟨a, b, _⟩ => ⟨a, b, rfl⟩) id
        cases hmu : μ t' with
        | none =>
          rw [hmu] at hx2
          simp only at hx2
          obtain ⟨hv, rfl, rfl⟩ := hx2
          have hb := fun w => bounds_run (P := cx.P) (isS := true) (len := 0) (cap := 0) (k := 0) hlo hhi (.inl ⟨rfl, rfl⟩) c0 c1 (by omega) (by omega) w
          refine fin (by rw [hv]; exact cut_slice_run hu c3 hb w) ?_
          have e2 : m.toNat - n.toNat = 0 := by omega
          rw [if_pos (by omega), if_pos (by omega), e2]
          simp only [SVRep]
          refine ⟨⟨rfl, hx.1.2⟩, fun blk' e' => ?_⟩
          rw [hmu]
          exact ⟨by simp, trivial, trivial⟩
        | some p =>
          obtain ⟨b, cap⟩ := p
          rw [hmu] at hx2
          simp only at hx2
          obtain ⟨hv, hcap⟩ := hx2
          have hb := fun w => bounds_run (P := cx.P) (isS := true) (len := len) (cap := cap - k) (k := (cap - k : Nat)) hlo hhi (.inl ⟨rfl, rfl⟩) c0 c1 (by omega) (by omega) w
          have hrun := cut_slice_run hu c3 (ad := some ⟨b, k * blk.esz, none⟩) hb w
          simp only [Option.map_some, Addr.add_lit, Int.toNat_natCast] at hrun
          refine fin (by rw [hv]; exact hrun) ?_
          by_cases hnm : n = m
          · have e2 : m.toNat - n.toNat = 0 := by omega
            rw [if_pos hnm]
            by_cases hn0 : n = 0
            · rw [if_pos hn0, e2]
              simp only [SVRep]
              refine ⟨⟨rfl, hx.1.2⟩, fun blk' e' => ?_⟩
              rw [hM] at e'
              simp only [Prod.mk.injEq, Option.some.injEq, true_and] at e'
              subst e'
              rw [hmu]
              simp only
              refine ⟨?_, by omega⟩
              subst hn0
              simp
            · rw [if_neg hn0, e2]
              simp only [SVRep]
              exact .listNil _ _
          · rw [if_neg hnm, if_neg (by omega)]
            simp only [SVRep]
            refine ⟨⟨rfl, hx.1.2⟩, fun blk' e' => ?_⟩
            rw [hM] at e'
            simp only [Prod.mk.injEq, Option.some.injEq, true_and] at e'
            subst e'
            rw [hmu]
            simp only
            refine ⟨?_, by omega⟩
            rw [Nat.add_mul]
            congr 1 <;> omega
      · cases hr
    · cases hr
  · rename_i s q
    have ex : S.ev x = .dv (.str s) := congrArg Prod.fst hlk
    rw [ex] at hx
    simp only [SVRep] at hx
    split at hr
    · rename_i n m hmx hst hn hm
      split at hr
      · rename_i hc
        obtain ⟨c0, c1, c2⟩ := hc
        simp only [Option.some.injEq] at hr
        subst hr
        have hu : cx.P.underlying t = some .string := by
          unfold isStrP at hst
          split at hst
          · assumption
          · cases hst
        have hmx' : mx = none := by cases mx with | none => rfl | some _ => simp at hmx
        subst hmx'
        have hlo : lo.map a.eval = none ∧ n = 0 ∨ ∃ q, lo.map a.eval = some (.int q n) := (num_rep h hn).imp (fun ⟨a, b, _⟩ => ⟨a, b⟩) id
        have hhi : hi.map a.eval = none ∧ m = s.size ∧ (none : Option Value) = none ∨ ∃ q, hi.map a.eval = some (.int q m) := (num_rep h hm).imp (fun ⟨a, b, _⟩ => ⟨a, b, rfl⟩) id
        have hb := fun w => bounds_run (P := cx.P) (isS := false) (len := s.size) (cap := s.size) (k := s.size) (mx := none) hlo hhi (.inl ⟨rfl, rfl⟩) c0 c1 c2 (by omega) w
        generalize hv : a.eval x = vx at *
        cases hx
        refine fin (v' := .string (s.extract n.toNat m.toNat)) ?_ (by simp only [SVRep]; exact .str _)
        simp [Instr.sliceAt, Instr.slice, run_underlying hu, hb]
      · cases hr
    · cases hr
  · cases hr
end
end Go.Ab
namespace Go.Ab
open Go.RowKit
section
variable {cx : Cx} {S S' : St} {a : Act} {w : World} {μ : Nat → Option (Nat × Nat)} {o : Oper}
def lenSV (P : Program) (t : TypeId) (x : SV × Option Blk) : Option SV :=
  match x with
  | (.dv (.list l), _) => if isSliceP P t then some (.dv (.int .i64 l.length)) else none
  | (.nils, _) => if isSliceP P t then some (.dv (.int .i64 0)) else none
  | (.emp _, _) => if isSliceP P t then some (.dv (.int .i64 0)) else none
  | (.sl _ _ _ n, some _) => if isSliceP P t then some (.dv (.int .i64 n)) else none
  | (.dv (.str s), _) => if isStrP P t then some (.dv (.int .i64 s.size)) else none
  | _ => none
theorem builtin_exec {P : Program} {b : Builtin} {args : Array Operand} {ts : Array TypeId} (ho : o.op = .call { callee := .builtin b, args := args, argTypes := ts }) {v w'}
    (h : (builtin b ts o.type (args.map fun | .const _ => true | _ => false) (args.map a.eval)).run P w = .ok (.value v) w') : (execOp a.eval o).run P w = .ok (.value v) w' := by
  unfold execOp
  simp only [ho, resolve, invoke, Sem.run_bind, Sem.run_pure, Result.andThen_ok]
  exact h
theorem len_runs (h : SimU cx S a w μ) {t : TypeId} {x : Operand} (ho : o.op = .call { callee := .builtin .len, args := #[x], argTypes := #[t] }) {r : SV} (hr : lenSV cx.P t (S.look x) = some r)
    (ha : S.apply cx.n o.dst (.val r) = some S') : Runs cx S' o a w := by
  have hx := h.ev x
  unfold lenSV at hr
  generalize hlk : S.look x = lx at hr
  have fin : ∀ {n : Nat}, r = .dv (.int .i64 n) → (Builtin.len_ #[t] o.type #[a.eval x]).run cx.P w = .ok (goInt n) w → Runs cx S' o a w := by
    intro n e hrun
    subst e
    refine runs_val h (v := .int .i64 n) (builtin_exec ho ?_) (by simp only [SVRep]; exact .int _ _) ha
    simp only [builtin, Sem.run_bind, List.map_toArray, List.map_cons, List.map_nil, hrun, Result.andThen_ok]
    rfl
  have sl : isSliceP cx.P t = true → ∀ (ad : Option Addr) (n c : Nat), a.eval x = .slice ad n c → (Builtin.len_ #[t] o.type #[a.eval x]).run cx.P w = .ok (goInt n) w := by
    intro hs ad n c hv
    unfold isSliceP at hs
    split at hs
    · rename_i e hu
      simp [Builtin.len_, hv, run_underlying hu]
    · cases hs
  split at hr
  · rename_i l q
    have ex : S.ev x = .dv (.list l) := congrArg Prod.fst hlk
    rw [ex] at hx
    simp only [SVRep] at hx
    split at hr
    · rename_i hs
      simp only [Option.some.injEq] at hr
      generalize hv : a.eval x = vx at *
      cases hx with
      | listNil ad cap => exact fin hr.symm (sl hs _ _ _ rfl)
      | list _ b off cap esz u h1 h2 hcap h3 h4 h5 => exact fin hr.symm (sl hs _ _ _ rfl)
    · cases hr
  · rename_i q
    have ex : S.ev x = .nils := congrArg Prod.fst hlk
    rw [ex] at hx
    simp only [SVRep] at hx
    split at hr
    · rename_i hs
      simp only [Option.some.injEq] at hr
      exact fin (n := 0) hr.symm (sl hs _ _ _ hx)
    · cases hr
  · rename_i b q
    have ex : S.ev x = .emp b := congrArg Prod.fst hlk
    rw [ex] at hx
    simp only [SVRep] at hx
    obtain ⟨ad, cap, hx, _⟩ := hx
    split at hr
    · rename_i hs
      simp only [Option.some.injEq] at hr
      exact fin (n := 0) hr.symm (sl hs _ _ _ hx)
    · cases hr
  · rename_i t' g k n blk
    have ex : S.ev x = .sl t' g k n := congrArg Prod.fst hlk
    have eb : blkOf S.M (S.ev x) = some blk := congrArg Prod.snd hlk
    rw [ex] at hx eb
    have hM := blkOf_sl eb
    simp only [SVRep] at hx
    have hx2 := hx.2 blk hM
    split at hr
    · rename_i hs
      simp only [Option.some.injEq] at hr
      cases hmu : μ t' with
      | none =>
        rw [hmu] at hx2
        simp only at hx2
        obtain ⟨hv, rfl, _⟩ := hx2
        exact fin hr.symm (sl hs _ _ _ hv)
      | some p =>
        obtain ⟨b, cap⟩ := p
        rw [hmu] at hx2
        simp only at hx2
        exact fin hr.symm (sl hs _ _ _ hx2.1)
    · cases hr
  · rename_i s q
    have ex : S.ev x = .dv (.str s) := congrArg Prod.fst hlk
    rw [ex] at hx
    simp only [SVRep] at hx
    split at hr
    · rename_i hs
      simp only [Option.some.injEq] at hr
      have hu : cx.P.underlying t = some .string := by
        unfold isStrP at hs
        split at hs
        · assumption
        · cases hs
      generalize hv : a.eval x = vx at *
      cases hx
      exact fin hr.symm (by simp [Builtin.len_, run_underlying hu])
    · cases hr
  · cases hr
def minmaxSV (mx : Bool) : List SV → Option SV
  | [.dv (.int k x), .dv (.int _ y)] => some (.dv (.int k (if mx then (if y > x then y else x) else (if y < x then y else x))))
  | _ => none
theorem minmax_runs (h : SimU cx S a w μ) {x y : Operand} {ts : Array TypeId} {mx : Bool} (ho : o.op = .call { callee := .builtin (if mx then .max else .min), args := #[x, y], argTypes := ts }) {r : SV}
    (hr : minmaxSV mx [S.ev x, S.ev y] = some r) (ha : S.apply cx.n o.dst (.val r) = some S') : Runs cx S' o a w := by
  have hx := h.ev x
  have hy := h.ev y
  unfold minmaxSV at hr
  split at hr
  · rename_i k n k' m e
    simp only [List.cons.injEq, and_true] at e
    obtain ⟨e1, e2⟩ := e
    simp only [Option.some.injEq] at hr
    subst hr
    rw [e1] at hx
    rw [e2] at hy
    simp only [SVRep] at hx hy
    generalize hv : a.eval x = vx at *
    generalize hv2 : a.eval y = vy at *
    cases hx
    cases hy
    cases mx with
    | true =>
      simp only [if_true] at ho ⊢
      refine runs_val h (v := .int k (if m > n then m else n)) (builtin_exec ho ?_) (by simp only [SVRep]; exact .int _ _) ha
      simp [builtin, hv, hv2, Builtin.max_, Builtin.max2]
    | false =>
      simp only [Bool.false_eq_true, if_false] at ho ⊢
      refine runs_val h (v := .int k (if m < n then m else n)) (builtin_exec ho ?_) (by simp only [SVRep]; exact .int _ _) ha
      simp [builtin, hv, hv2, Builtin.min_, Builtin.min2]
  · cases hr
def convSV (P : Program) (src dst : TypeId) (x : SV) : Option SV :=
  match x, kindP P src, kindP P dst with
  | .dv (.int _ n), some _, some k => some (.dv (.int k (k.wrap n)))
  | _, _, _ => none
theorem kindP_spec {P : Program} {t : TypeId} {k : IntKind} (h : kindP P t = some k) : P.underlying t = some (.int k) := by
  unfold kindP at h
  split at h
  · simp only [Option.some.injEq] at h; subst h; assumption
  · cases h
theorem conv_runs (h : SimU cx S a w μ) {src dst : TypeId} {x : Operand} (ho : o.op = .convert src dst x) {r : SV} (hr : convSV cx.P src dst (S.ev x) = some r) (ha : S.apply cx.n o.dst (.val r) = some S') : Runs cx S' o a w := by
  have hx := h.ev x
  unfold convSV at hr
  split at hr
  · rename_i k n k1 k2 e1 e2 e3
    simp only [Option.some.injEq] at hr
    subst hr
    rw [e1] at hx
    simp only [SVRep] at hx
    generalize hv : a.eval x = vx at *
    cases hx
    refine runs_val h (v := .int k2 (k2.wrap n)) ?_ (by simp only [SVRep]; exact .int _ _) ha
    unfold execOp
    have : (convert src dst (.int k n)).run cx.P w = .ok (.int k2 (k2.wrap n)) w := by
      simp [convert, run_underlying (kindP_spec e2), run_underlying (kindP_spec e3), Conv.intToInt]
    simp only [ho, hv, Sem.run_bind, this, Result.andThen_ok]
    rfl
  · cases hr
def strIxSV (P : Program) (t : TypeId) (x y : SV) : Option SV :=
  match x, y with
  | .dv (.str s), .dv (.int _ i) => if isStrP P t = true ∧ 0 ≤ i then (s.data.toList[i.toNat]?).map fun b => .dv (.int .u8 b.toNat) else none
  | _, _ => none
theorem isStrP_spec {P : Program} {t : TypeId} (h : isStrP P t = true) : P.underlying t = some .string := by
  unfold isStrP at h
  split at h
  · assumption
  · cases h
theorem stridx_runs (h : SimU cx S a w μ) {t : TypeId} {x y : Operand} (ho : o.op = .index t x y) {r : SV} (hr : strIxSV cx.P t (S.ev x) (S.ev y) = some r) (ha : S.apply cx.n o.dst (.val r) = some S') : Runs cx S' o a w := by
  have hx := h.ev x
  have hy := h.ev y
  unfold strIxSV at hr
  split at hr
  · rename_i s k i e1 e2
    split at hr
    · rename_i hc
      obtain ⟨hs, h0⟩ := hc
      obtain ⟨b, hb, rfl⟩ := Option.map_eq_some_iff.1 hr
      rw [e1] at hx
      rw [e2] at hy
      simp only [SVRep] at hx hy
      generalize hv : a.eval x = vx at *
      generalize hv2 : a.eval y = vy at *
      cases hx
      cases hy
      refine runs_val h (v := .int .u8 b.toNat) ?_ (by simp only [SVRep]; exact .int _ _) ha
      have hb2 : s[i.toNat]? = some b := by
        obtain ⟨h1, h2⟩ := List.getElem?_eq_some_iff.1 hb
        rw [Array.length_toList] at h1
        have h3 : i.toNat < s.size := h1
        rw [getElem?_pos s i.toNat h3, ← h2]
        rfl
      have : (Instr.index t (.string s) (.int k i)).run cx.P w = .ok (.int .u8 b.toNat) w := by
        simp [Instr.index, asIntOf, run_underlying (isStrP_spec hs), h0, hb2]
      unfold execOp
      simp only [ho, hv, hv2, Sem.run_bind, this, Result.andThen_ok]
      rfl
    · cases hr
  · cases hr
def u8sOf : List SV → Option (List Int)
  | [] => some []
  | .dv (.int .u8 n) :: l => (u8sOf l).map (n :: ·)
  | _ => none
def bytesOf (ns : List Int) : ByteArray := ns.foldl (fun r n => r.push (UInt8.ofNat n.toNat)) ByteArray.empty
def b2sSV (P : Program) (src dst : TypeId) (x : SV × Option Blk) : Option SV :=
  match P.underlying src with
  | some (.slice e) =>
    if kindP P e = some .u8 ∧ isStrP P dst = true then
      (match x with
      | (.nils, _) => some (.dv (.str ByteArray.empty))
      | (.sl _ _ 0 m, some blk) => if blk.esz = 1 ∧ m ≤ blk.cells.length then (u8sOf (blk.cells.take m)).map fun ns => .dv (.str (bytesOf ns)) else none
      | _ => none)
    else none
  | _ => none
theorem u8s_rep {M : Nat → Nat × Option Blk} {X : Nat → Prop} : ∀ {l : List SV} {ns : List Int} {nv : List Value}, u8sOf l = some ns → SVReps w M μ X l nv → nv = ns.map (Value.int .u8)
  | [], ns, [], h, _ => by simp only [u8sOf, Option.some.injEq] at h; subst h; rfl
  | .dv (.int .u8 n) :: l, ns, v :: nv, h, hr => by
    simp only [u8sOf] at h
    obtain ⟨ns', h1, rfl⟩ := Option.map_eq_some_iff.1 h
    simp only [SVReps] at hr
    obtain ⟨h2, h3⟩ := hr
    simp only [SVRep] at h2
    cases h2
    rw [List.map_cons, ← u8s_rep h1 h3]
theorem b2s_runs (h : SimU cx S a w μ) {src dst : TypeId} {x : Operand} (ho : o.op = .convert src dst x) {r : SV} (hr : b2sSV cx.P src dst (S.look x) = some r) (ha : S.apply cx.n o.dst (.val r) = some S') : Runs cx S' o a w := by
  have hx := h.ev x
  unfold b2sSV at hr
  split at hr
  · rename_i e hsrc
    split at hr
    · rename_i hc
      obtain ⟨hk, hd⟩ := hc
      have hrun : ∀ (ad : Option Addr) (l c : Nat), (convert src dst (.slice ad l c)).run cx.P w = (Conv.bytesToString (.slice ad l c)).run cx.P w := fun ad l c => run_convert_bytes_string w src dst e ad l c hsrc (kindP_spec hk) (isStrP_spec hd)
      have fin : ∀ {v : Value} {s : ByteArray}, a.eval x = v → (convert src dst v).run cx.P w = .ok (.string s) w → r = .dv (.str s) → Runs cx S' o a w := fun {v s} hv hc hr => by
        subst hr
        refine runs_val h (v := .string s) ?_ (by simp only [SVRep]; exact .str _) ha
        unfold execOp
        simp only [ho, hv, Sem.run_bind, hc, Result.andThen_ok]
        rfl
      have enil : ∀ l c, (Conv.bytesToString (.slice none l c)).run cx.P w = .ok (.string ByteArray.empty) w := fun l c => rfl
      generalize hlk : S.look x = lx at hr
      split at hr
      · rename_i q
        have ex : S.ev x = .nils := congrArg Prod.fst hlk
        rw [ex] at hx
        simp only [SVRep] at hx
        simp only [Option.some.injEq] at hr
        exact fin hx (by rw [hrun, enil]) hr.symm
      · rename_i t' g m blk
        have ex : S.ev x = .sl t' g 0 m := congrArg Prod.fst hlk
        have eb : blkOf S.M (S.ev x) = some blk := congrArg Prod.snd hlk
        rw [ex] at hx eb
        have hM := blkOf_sl eb
        split at hr
        · rename_i hc
          obtain ⟨hesz, hle⟩ := hc
          obtain ⟨ns, hns, rfl⟩ := Option.map_eq_some_iff.1 hr
          simp only [SVRep] at hx
          have hx2 := hx.2 blk hM
          have hb := h.blk t' g blk hM
          unfold BlkRep at hb
          cases hm : μ t' with
          | none =>
            rw [hm] at hx2 hb
            simp only at hx2 hb
            obtain ⟨hv, rfl, _⟩ := hx2
            simp only [List.take_zero, u8sOf, Option.some.injEq] at hns
            subst hns
            exact fin hv (by rw [hrun, enil]; rfl) rfl
          | some p =>
            obtain ⟨b, cap⟩ := p
            rw [hm] at hx2 hb
            simp only at hx2 hb
            obtain ⟨hv, hcap⟩ := hx2
            obtain ⟨cur, q1, q2, q3, _, _⟩ := hb
            have hrep : SVReps w S.M μ (XX cx S.M μ) (blk.cells.take m) (cur.toList.take m) := by
              refine SVReps.mk (by simp; omega) fun j c u hc hu => ?_
              rw [List.getElem?_take] at hc hu
              split at hc
              · rename_i hlt
                rw [if_pos hlt] at hu
                exact q3 _ c u hc (by simpa using hu)
              · cases hc
            have hnv := u8s_rep hns hrep
            have hlen : ns.length = m := by
              have := congrArg List.length hnv
              simp at this; omega
            have hload : (loadCells ⟨b, 0, none⟩ m).run cx.P w = .ok (ns.map (Value.int .u8)).toArray w := by
              have := run_loadCells_list (P := cx.P) w ⟨b, 0, none⟩ (ns.map (Value.int .u8)) (fun j v hj => by
                rw [← hnv, List.getElem?_take] at hj
                split at hj
                · rw [Addr.add_lit, cell_at q1]
                  simpa using hj
                · cases hj)
              simpa [hlen] using this
            refine fin hv ?_ rfl
            rw [hrun]
            have e0 : (⟨b, 0 * blk.esz, none⟩ : Addr) = ⟨b, 0, none⟩ := by simp
            first
              | (rw [e0]; exact run_bytesToString w _ _ _ _ hload)
              | exact run_bytesToString w _ _ _ _ hload
        · cases hr
      · cases hr
    · cases hr
  · cases hr
def nilckSV (x : SV × Option Blk) : Option SV :=
  match x with
  | (.dv (.cptr cs), _) => some (.dv (.cptr cs))
  | (.dv (.fn f p c), _) => some (.dv (.fn f p c))
  | (.pt t g k, some _) => some (.pt t g k)
  | _ => none
theorem nilck_runs (h : SimU cx S a w μ) {x : Operand} (ho : o.op = .nilCheck x) {r : SV} (hr : nilckSV (S.look x) = some r) (ha : S.apply cx.n o.dst (.val r) = some S') : Runs cx S' o a w := by
  have hx := h.ev x
  unfold nilckSV at hr
  generalize hlk : S.look x = lx at hr
  have fin : r = S.ev x → (execOp a.eval o).run cx.P w = .ok (.value (a.eval x)) w → Runs cx S' o a w := fun e hrun => by
    subst e
    exact runs_val h hrun hx ha
  split at hr
  · rename_i cs q
    have ex : S.ev x = .dv (.cptr cs) := congrArg Prod.fst hlk
    simp only [Option.some.injEq] at hr
    refine fin (by rw [ex, hr]) ?_
    rw [ex] at hx
    simp only [SVRep] at hx
    unfold execOp
    generalize hv : a.eval x = vx at *
    cases hx
    simp only [ho, hv]
    rfl
  · rename_i f p c q
    have ex : S.ev x = .dv (.fn f p c) := congrArg Prod.fst hlk
    simp only [Option.some.injEq] at hr
    refine fin (by rw [ex, hr]) ?_
    rw [ex] at hx
    simp only [SVRep] at hx
    unfold execOp
    generalize hv : a.eval x = vx at *
    cases hx
    simp only [ho, hv]
    rfl
  · rename_i t g k blk
    have ex : S.ev x = .pt t g k := congrArg Prod.fst hlk
    have eb : blkOf S.M (S.ev x) = some blk := congrArg Prod.snd hlk
    simp only [Option.some.injEq] at hr
    refine fin (by rw [ex, hr]) ?_
    rw [ex] at hx eb
    have hM := blkOf_pt eb
    simp only [SVRep] at hx
    obtain ⟨b, cap, hm, hv⟩ := hx.2 blk hM
    unfold execOp
    simp only [ho, hv]
    rfl
  · cases hr
def frz (M : Nat → Nat × Option Blk) : List Nat → Option (Nat → Nat × Option Blk)
  | [] => some M
  | t :: ts => match M t with
    | (g, some b) => if OwS b.st ∨ b.st = 1 then frz (upd M t (g, some { b with st := 1 })) ts else none
    | _ => none
def capSV : SV × Option Blk → Option (DV × List Nat)
  | (.dv d, _) => some (d, [])
  | (.pt t _ k, some blk) => (allDv (blk.cells.drop k)).map fun ds => (.cptr ds, [t])
  | _ => none
def capsSV : List (SV × Option Blk) → Option (List DV × List Nat)
  | [] => some ([], [])
  | x :: r => match capSV x, capsSV r with
    | some (d, ts), some (ds, us) => some (d :: ds, ts ++ us)
    | _, _ => none
theorem frz_sim (h : SimU cx S a w μ) : ∀ (ts : List Nat) (M : Nat → Nat × Option Blk) (M' : Nat → Nat × Option Blk), SimU cx ⟨S.F, M⟩ a w μ → frz M ts = some M' → SimU cx ⟨S.F, M'⟩ a w μ
  | [], M, M', hM, hf => by simp only [frz, Option.some.injEq] at hf; subst hf; exact hM
  | t :: ts, M, M', hM, hf => by
    simp only [frz] at hf
    split at hf
    · rename_i g b e
      split at hf
      · rename_i hst
        exact frz_sim h ts _ M' (hM.lower (S := ⟨S.F, M⟩) e (st := 1) (by omega) hst) hf
      · cases hf
    · cases hf
theorem frz_get : ∀ (ts : List Nat) (M M' : Nat → Nat × Option Blk), frz M ts = some M' → ∀ t g blk, M t = (g, some blk) → ∃ st, M' t = (g, some { blk with st := st }) ∧ ((t ∈ ts ∨ blk.st = 1) → st = 1)
  | [], M, M', hf, t, g, blk, e => by
    simp only [frz, Option.some.injEq] at hf
    subst hf
    exact ⟨blk.st, e, fun h => by simpa using h⟩
  | u :: ts, M, M', hf, t, g, blk, e => by
    simp only [frz] at hf
    split at hf
    · rename_i g' b e'
      split at hf
      · by_cases hu : t = u
        · subst hu
          rw [e'] at e
          simp only [Prod.mk.injEq, Option.some.injEq] at e
          obtain ⟨rfl, rfl⟩ := e
          obtain ⟨st, h1, h2⟩ := frz_get ts _ M' hf t g' { b with st := 1 } (by rw [upd_same])
          exact ⟨st, h1, fun _ => h2 (.inr rfl)⟩
        · obtain ⟨st, h1, h2⟩ := frz_get ts _ M' hf t g blk (by rw [upd_ne _ _ _ _ hu]; exact e)
          exact ⟨st, h1, fun h => h2 (h.imp (fun hm => by simpa [hu] using hm) id)⟩
      · cases hf
    · cases hf
theorem frz_rep {M M' : Nat → Nat × Option Blk} {ts : List Nat} (hf : frz M ts = some M') {c : SV} {v : Value} (h : SVRep w M μ (XX cx M μ) c v) : SVRep w M' μ (XX cx M' μ) c v := by
  have key : ∀ (ts : List Nat) (M M' : Nat → Nat × Option Blk), frz M ts = some M' → (∀ t, (M' t).1 = (M t).1) ∧ (∀ t g blk', M' t = (g, some blk') → ∃ blk, M t = (g, some blk) ∧ blk'.esz = blk.esz ∧ (OwS blk'.st → OwS blk.st)) := by
    intro ts
    induction ts with
    | nil =>
      intro M M' hf
      simp only [frz, Option.some.injEq] at hf
      subst hf
      exact ⟨fun _ => rfl, fun t g blk' e => ⟨blk', e, rfl, id⟩⟩
    | cons t ts ih =>
      intro M M' hf
      simp only [frz] at hf
      split at hf
      · rename_i g b e
        split at hf
        · obtain ⟨i1, i2⟩ := ih _ M' hf
          constructor
          · intro t'
            rw [i1]
            by_cases hq : t' = t
            · subst hq; rw [upd_same, e]
            · rw [upd_ne _ _ _ _ hq]
          · intro t' g' blk' e'
            obtain ⟨blk, h1, h2, h3⟩ := i2 t' g' blk' e'
            by_cases hq : t' = t
            · subst hq
              rw [upd_same] at h1
              simp only [Prod.mk.injEq, Option.some.injEq] at h1
              obtain ⟨rfl, rfl⟩ := h1
              exact ⟨b, e, h2, fun h0 => by have := h3 h0; simp [OwS] at this⟩
            · rw [upd_ne _ _ _ _ hq] at h1; exact ⟨blk, h1, h2, h3⟩
        · cases hf
      · cases hf
  obtain ⟨k1, k2⟩ := key ts M M' hf
  refine SVRep.mono (Nat.le_refl _) (fun b _ hx => ⟨rfl, fun ho => hx (ho.imp ?_ id)⟩) (fun t => by rw [k1]; exact Nat.le_refl _) (fun t g blk' e _ => ?_) c v h
  · obtain ⟨blk, f1, f2, f3⟩ := k2 t g blk' e
    exact ⟨blk, f1, rfl, f2⟩
  · rintro ⟨t, g, blk', cap, e1, e2, e3⟩
    obtain ⟨blk, f1, f2, f3⟩ := k2 t g blk' e1
    exact ⟨t, g, blk, cap, f1, f3 e2, e3⟩
theorem caps_get : ∀ (xs : List (SV × Option Blk)) (ds : List DV) (ts : List Nat), capsSV xs = some (ds, ts) →
    ds.length = xs.length ∧ ∀ (j : Nat) x d, xs[j]? = some x → ds[j]? = some d → ∃ us, capSV x = some (d, us) ∧ ∀ t ∈ us, t ∈ ts
  | [], ds, ts, h => by
    simp only [capsSV, Option.some.injEq, Prod.mk.injEq] at h
    obtain ⟨rfl, rfl⟩ := h
    exact ⟨rfl, fun j x d hx _ => by simp at hx⟩
  | x :: xs, ds, ts, h => by
    simp only [capsSV] at h
    split at h
    · rename_i d us ds' us' e1 e2
      simp only [Option.some.injEq, Prod.mk.injEq] at h
      obtain ⟨rfl, rfl⟩ := h
      obtain ⟨i1, i2⟩ := caps_get xs ds' us' e2
      refine ⟨by simp [i1], fun j y d' hy hd => ?_⟩
      cases j with
      | zero =>
        simp only [List.getElem?_cons_zero, Option.some.injEq] at hy hd
        subst hy; subst hd
        exact ⟨us, e1, fun t ht => List.mem_append_left _ ht⟩
      | succ j =>
        simp only [List.getElem?_cons_succ] at hy hd
        obtain ⟨us2, q1, q2⟩ := i2 j y d' hy hd
        exact ⟨us2, q1, fun t ht => List.mem_append_right _ (q2 t ht)⟩
    · cases h
def St.applyFn (n : Nat) (S : St) (dst : Option Nat) (f : FuncId) (pre caps : List (SV × Option Blk)) : Option St :=
  match dst, capsSV pre, capsSV caps with
  | some d, some (ps, ts), some (cs, us) => match frz S.M (ts ++ us) with
    | some M' => if d < n then some ⟨upd S.F d (.dv (.fn f ps cs)), M'⟩ else none
    | none => none
  | _, _, _ => none
theorem makeFunc_runs (hgood : cx.Good) (h : SimU cx S a w μ) {f : FuncId} {pre caps : Array Operand} (ho : o.op = .makeFunc (.func f) pre caps) (ha : S.applyFn cx.n o.dst f (pre.toList.map S.look) (caps.toList.map S.look) = some S') : Runs cx S' o a w := by
  unfold St.applyFn at ha
  split at ha
  · rename_i d ps ts cs us hd e1 e2
    split at ha
    · rename_i M' hf
      split at ha
      · rename_i hdn
        simp only [Option.some.injEq] at ha
        subst ha
        have h1 := frz_sim h (ts ++ us) S.M M' h hf
        have hrep : ∀ (xs : Array Operand) (ds : List DV) (vs : List Nat), capsSV (xs.toList.map S.look) = some (ds, vs) → (∀ t ∈ vs, t ∈ ts ++ us) →
            (xs.map a.eval).size = ds.length ∧ ∀ j c, ds[j]? = some c → RepD w (XX cx M' μ) c ((xs.map a.eval).getD j undef) := by
          intro xs ds vs e hvs
          obtain ⟨q1, q2⟩ := caps_get _ _ _ e
          refine ⟨by simp [q1], fun j c hj => ?_⟩
          have hjl : j < xs.size := by
            have := (List.getElem?_eq_some_iff.1 hj).1
            simpa [q1] using this
          obtain ⟨us', r1, r2⟩ := q2 j (S.look xs[j]) c (by simp [hjl]) hj
          have hv : (xs.map a.eval).getD j undef = a.eval xs[j] := by simp [hjl]
          rw [hv]
          have hx := frz_rep hf (h.ev xs[j])
          unfold capSV at r1
          generalize hlk : S.look xs[j] = lx at r1
          split at r1
          · rename_i d' q
            have ex : S.ev xs[j] = .dv d' := congrArg Prod.fst hlk
            simp only [Option.some.injEq, Prod.mk.injEq] at r1
            obtain ⟨rfl, rfl⟩ := r1
            rw [ex] at hx
            simpa only [SVRep] using hx
          · rename_i t g k blk
            have ex : S.ev xs[j] = .pt t g k := congrArg Prod.fst hlk
            have eb : blkOf S.M (S.ev xs[j]) = some blk := congrArg Prod.snd hlk
            rw [ex] at hx eb
            have hM := blkOf_pt eb
            obtain ⟨dd, hdd, e3⟩ := Option.map_eq_some_iff.1 r1
            simp only [Prod.mk.injEq] at e3
            obtain ⟨rfl, rfl⟩ := e3
            obtain ⟨st, m1, m2⟩ := frz_get _ _ _ hf t g blk hM
            have hst := m2 (.inl (hvs t (r2 t (by simp))))
            subst hst
            have hall := allDv_map _ _ hdd
            refine Lasting.rep hgood h1 (s := .pt t g k) ?_ hx
            refine .pt t g k { blk with st := 1 } dd (fun j => .dv (dd.getD j default)) m1 rfl (fun j c hj => ?_) (fun j c hj => ?_)
            · simp only
              rw [← List.getElem?_drop, hall]
              simp [hj]
            · have : dd.getD j default = c := by simp [hj]
              simp only [this]
              exact .dv c trivial
          · cases r1
        obtain ⟨p1, p2⟩ := hrep pre ps ts e1 (fun t ht => List.mem_append_left _ ht)
        obtain ⟨c1, c2⟩ := hrep caps cs us e2 (fun t ht => List.mem_append_right _ ht)
        refine ⟨.func (.func f) (pre.map a.eval) (caps.map a.eval), w, μ, .inl ?_, ?_⟩
        · unfold execOp
          simp only [ho, Instr.makeFunc]
          rfl
        · rw [hd]
          refine SimU.set h1 hdn ?_
          simp only [SVRep]
          exact .fn f ps cs _ _ p1 c1 p2 c2
      · cases ha
    · cases ha
  · cases ha
end
end Go.Ab
