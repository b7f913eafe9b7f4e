/- The abstract layer, part 3: a store into an owned block; what is known only weaker. -/
import Derived.Test.YtjlfgobbieljoaaAb2
namespace Go.Ab
open Go.RowKit

/-- A store into a block makes all views unknown. -/
def noViews (M : Nat → Nat × Option Blk) : Nat → Nat × Option Blk := fun t =>
  match (M t).2 with
  | some b => if b.st = 2 then ((M t).1, none) else M t
  | none => M t

def putCells {α : Type} (l : List α) (off : Nat) (news : List α) : List α := l.take off ++ news ++ l.drop (off + news.length)

theorem putCells_length {α : Type} (l news : List α) (off : Nat) (h : off + news.length ≤ l.length) : (putCells l off news).length = l.length := by
  unfold putCells; simp; omega

theorem putCells_get {α : Type} (l news : List α) (off j : Nat) (h : off + news.length ≤ l.length) :
    (putCells l off news)[j]? = if j < off then l[j]? else if j < off + news.length then news[j - off]? else l[j]? := by
  unfold putCells
  by_cases h1 : j < off
  · rw [if_pos h1, List.append_assoc, List.getElem?_append_left (by simp; omega), List.getElem?_take_of_lt h1]
  · rw [if_neg h1, List.append_assoc, List.getElem?_append_right (by simp; omega)]
    have e1 : j - (List.take off l).length = j - off := by simp; omega
    rw [e1]
    by_cases h2 : j < off + news.length
    · rw [if_pos h2, List.getElem?_append_left (by omega)]
    · rw [if_neg h2, List.getElem?_append_right (by omega), List.getElem?_drop]
      congr 1
      omega

theorem SimU.write {cx : Cx} {S : St} {a : Act} {w : World} {μ : Nat → Option (Nat × Nat)} (h : SimU cx S a w μ) {t g b cap : Nat} {blk : Blk} {cur : Array Value}
    (e : S.M t = (g, some blk)) (hst : OwS blk.st) (hm : μ t = some (b, cap)) (hh : w.heap[b]? = some (.cells cur blk.elem (0, 0)))
    (off : Nat) (news : List SV) (nv : List Value) (hl : nv.length = news.length) (hnews : ∀ (j : Nat) c u, news[j]? = some c → nv[j]? = some u → SVRep w S.M μ (XX cx S.M μ) c u)
    (hfit : off + news.length ≤ blk.cells.length) :
    SimU cx { S with M := upd (noViews S.M) t (g, some { blk with cells := putCells blk.cells off news }) } a (w.setRow b (putCells cur.toList off nv).toArray) μ := by
  have hX : Own S.M μ b := ⟨t, g, blk, cap, e, hst, hm⟩
  have hsrc := h.blk t g blk e
  unfold BlkRep at hsrc
  rw [hm] at hsrc
  obtain ⟨cur0, q1, q2, q3, q4, q5⟩ := hsrc
  rw [hh] at q1
  simp only [Option.some.injEq, Obj.cells.injEq, and_true] at q1
  subst q1
  have hcur : ∀ j, (putCells cur.toList off nv).toArray[j]? = if j < off then cur[j]? else if j < off + news.length then nv[j - off]? else cur[j]? := fun j => by
    rw [List.getElem?_toArray, putCells_get _ _ _ _ (by simp; omega), hl]; simp
  have hsz' : (putCells cur.toList off nv).toArray.size = cur.size := by
    rw [List.size_toArray, putCells_length _ _ _ (by simp; omega)]; simp
  generalize (putCells cur.toList off nv).toArray = cur' at *
  have hheap : (w.setRow b cur').heap[b]? = some (.cells cur' blk.elem (0, 0)) := setRow_heap w b cur cur' blk.elem (0, 0) hh
  have hoth : ∀ b', b' ≠ b → (w.setRow b cur').heap[b']? = w.heap[b']? := fun b' hb' => setRow_other w b b' cur' hb'
  generalize hM' : upd (noViews S.M) t (g, some { blk with cells := putCells blk.cells off news }) = M'
  have hMt : M' t = (g, some { blk with cells := putCells blk.cells off news }) := by subst hM'; rw [upd_same]
  have hMo : ∀ t', t' ≠ t → M' t' = noViews S.M t' := fun t' h1 => by subst hM'; rw [upd_ne _ _ _ _ h1]
  have hMs : ∀ t' g' b', t' ≠ t → M' t' = (g', some b') → S.M t' = (g', some b') ∧ b'.st ≠ 2 := fun t' g' b' h1 e' => by
    rw [hMo t' h1] at e'
    unfold noViews at e'
    split at e'
    · rename_i b'' hb''
      split at e'
      · cases e'
      · rename_i hne
        refine ⟨e', ?_⟩
        rw [e'] at hb''
        simp only [Option.some.injEq] at hb''
        rw [hb'']; exact hne
    · rename_i hn
      rw [e'] at hn; cases hn
  have hMg : ∀ t', (S.M t').1 ≤ (M' t').1 := fun t' => by
    by_cases h1 : t' = t
    · subst h1; rw [hMt, e]; exact Nat.le_refl _
    · rw [hMo t' h1]
      unfold noViews
      split
      · split <;> exact Nat.le_refl _
      · exact Nat.le_refl _
  have hown : ∀ b', Own M' μ b' → Own S.M μ b' := by
    rintro b' ⟨t', g', blk', cap', e1, e2, e3⟩
    by_cases h1 : t' = t
    · subst h1; exact ⟨t', g, blk, cap', e, hst, e3⟩
    · exact ⟨t', g', blk', cap', (hMs t' g' blk' h1 e1).1, e2, e3⟩
  have hs : w.heap.size ≤ (w.setRow b cur').heap.size := by simp
  have hk : ∀ b', b' < w.heap.size → ¬ XX cx S.M μ b' → (w.setRow b cur').heap[b']? = w.heap[b']? ∧ ¬ XX cx M' μ b' :=
    fun b' _ hx => ⟨hoth b' (fun e => hx (.inl (e ▸ hX))), fun ho => hx (ho.imp (hown b') id)⟩
  have hB : ∀ t' g' blk', M' t' = (g', some blk') → g' ≤ (S.M t').1 → ∃ blk, S.M t' = (g', some blk) ∧ μ t' = μ t' ∧ blk'.esz = blk.esz := fun t' g' blk' e' _ => by
    by_cases h1 : t' = t
    · subst h1
      rw [hMt] at e'
      simp only [Prod.mk.injEq, Option.some.injEq] at e'
      obtain ⟨rfl, rfl⟩ := e'
      exact ⟨blk, e, rfl, rfl⟩
    · exact ⟨blk', (hMs t' g' blk' h1 e').1, rfl, rfl⟩
  refine { blk := ?_, slot := ?_, place := ?_, uniq := ?_, anc := ?anc, below := ?_, size := h.size, defers := h.defers }
  case anc =>
    intro t' g' blk' e' h3
    change M' t' = _ at e'
    by_cases h1 : t' = t
    · subst h1
      rw [hMt] at e'
      simp only [Prod.mk.injEq, Option.some.injEq] at e'
      obtain ⟨_, rfl⟩ := e'
      exact h.anc t' g blk e h3
    · exact h.anc t' g' blk' (hMs t' g' blk' h1 e').1 h3
  · intro t' g' blk' e'
    change M' t' = _ at e'
    show BlkRep _ M' _ (XX cx M' _) t' blk'
    by_cases h1 : t' = t
    · subst h1
      rw [hMt] at e'
      simp only [Prod.mk.injEq, Option.some.injEq] at e'
      obtain ⟨_, rfl⟩ := e'
      unfold BlkRep
      rw [hm]
      refine ⟨cur', hheap, ?_, ?_, ?_, ?_⟩
      · simp only [putCells_length _ _ _ hfit]; omega
      · intro j c u hc hu
        simp only [putCells_get _ _ _ _ hfit] at hc
        rw [hcur] at hu
        split at hc
        · rename_i hj; rw [if_pos hj] at hu; exact SVRep.mono hs hk hMg hB c u (q3 j c u hc hu)
        · rename_i hj
          rw [if_neg hj] at hu
          split at hc
          · rename_i hj2; rw [if_pos hj2] at hu; exact SVRep.mono hs hk hMg hB c u (hnews _ c u hc hu)
          · rename_i hj2; rw [if_neg hj2] at hu; exact SVRep.mono hs hk hMg hB c u (q3 j c u hc hu)
      · intro hr; rw [hsz']; exact q4 hr
      · intro hr; simp only [putCells_length _ _ _ hfit]; rw [hsz']; exact q5 hr
    · obtain ⟨e2, hv⟩ := hMs t' g' blk' h1 e'
      have ho := h.blk t' g' blk' e2
      unfold BlkRep at ho ⊢
      cases hmt : μ t' with
      | none => rw [hmt] at ho; exact ho
      | some p =>
        obtain ⟨b', cap'⟩ := p
        rw [hmt] at ho
        obtain ⟨c0, r1, r2, r3, r4, r5⟩ := ho
        have hb : b' ≠ b := fun hb => by
          subst hb
          exact hv (h.uniq t g blk t' g' blk' b' cap cap' (Ne.symm h1) e e2 hst hm hmt).1
        exact ⟨c0, by rw [hoth b' hb]; exact r1, r2, fun j c u hc hu => SVRep.mono hs hk hMg hB c u (r3 j c u hc hu), r4, r5⟩
  · exact fun i => SVRep.mono hs hk hMg hB _ _ (h.slot i)
  · intro t' g' blk' b' cap' e' hm'
    change M' t' = _ at e'
    rw [show (w.setRow b cur').heap.size = w.heap.size by simp]
    by_cases h1 : t' = t
    · subst h1; exact h.place _ _ _ _ _ e hm'
    · exact h.place _ _ _ _ _ (hMs t' g' blk' h1 e').1 hm'
  · intro t1 g1 b1 t2 g2 b2 b' c1 c2 hne e1 e2 s1 m1 m2
    change M' t1 = _ at e1
    change M' t2 = _ at e2
    have two : ∃ b1', S.M t1 = (g1, some b1') ∧ OwS b1'.st ∧ b1'.cells.length = b1.cells.length := by
      by_cases h1 : t1 = t
      · subst h1
        rw [hMt] at e1
        simp only [Prod.mk.injEq, Option.some.injEq] at e1
        obtain ⟨rfl, rfl⟩ := e1
        exact ⟨blk, e, hst, (putCells_length _ _ _ hfit).symm⟩
      · exact ⟨b1, (hMs t1 g1 b1 h1 e1).1, s1, rfl⟩
    obtain ⟨b1', f1, f2, f3⟩ := two
    by_cases h2 : t2 = t
    · subst h2
      have := h.uniq t1 g1 b1' t2 g blk b' c1 c2 hne f1 e f2 m1 m2
      unfold OwS at hst; omega
    · have := h.uniq t1 g1 b1' t2 g2 b2 b' c1 c2 hne f1 (hMs t2 g2 b2 h2 e2).1 f2 m1 m2
      exact absurd this.1 (hMs t2 g2 b2 h2 e2).2
  · refine h.below.then (Wr' := fun k => k = b) ⟨rfl, rfl, rfl, by simp, fun k _ hk' => hoth k hk'⟩ ?_
    intro i hi hw hib
    have := (h.place t g blk b cap e hm).1
    subst hib
    exact this.elim (fun h => by omega) hw

end Go.Ab
