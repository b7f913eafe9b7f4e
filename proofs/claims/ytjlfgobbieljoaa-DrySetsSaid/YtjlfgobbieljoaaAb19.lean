/- The abstract layer, part 19: a region that draws its order. -/
import Derived.Test.YtjlfgobbieljoaaAb18
set_option linter.unusedVariables false
namespace Go.Ab
open Go.RowKit

section
variable {md : Region.Mode} {ops : Array Oper}

/-! what the bits say -/
def AncOk (md : Region.Mode) (ops : Array Oper) (k : Nat) (bits : Nat) : Prop :=
  ∀ o, ops[k]? = some o → ∀ L : Nat → Bool, Clo md ops L → (∀ e ∈ o.after, Region.binds md e = true → L e.on = true) → ∀ i, bits.testBit i = true → L i = true

theorem anc_fold {L : Nat → Bool} (acc : List Nat) (hacc : ∀ k, L k = true → ∀ i, (acc.getD k 0).testBit i = true → L i = true) : ∀ (es : List Edge) (s : Nat),
    (∀ i, s.testBit i = true → L i = true) → (∀ e ∈ es, Region.binds md e = true → L e.on = true) →
    ∀ i, (es.foldl (fun s e => if Region.binds md e then s ||| 2 ^ e.on ||| acc.getD e.on 0 else s) s).testBit i = true → L i = true
  | [], s, hs, _, i, h => hs i h
  | e :: es, s, hs, he, i, h => by
    refine anc_fold acc hacc es _ (fun i hi => ?_) (fun e' h' => he e' (List.mem_cons_of_mem _ h')) i h
    replace hi : (if Region.binds md e then s ||| 2 ^ e.on ||| acc.getD e.on 0 else s).testBit i = true := hi
    split at hi
    · rename_i hb
      simp only [Nat.testBit_or, Bool.or_eq_true] at hi
      have hon := he e (by simp) hb
      rcases hi with (hi | hi) | hi
      · exact hs i hi
      · rw [Nat.testBit_two_pow] at hi
        simp only [decide_eq_true_eq] at hi
        rw [← hi]; exact hon
      · exact hacc _ hon i hi
    · exact hs i hi

theorem ancs_ok : ∀ (l : List Oper) (acc : List Nat), (∀ j, ops[acc.length + j]? = l[j]?) → (∀ k, k < acc.length → AncOk md ops k (acc.getD k 0)) →
    ∀ k, AncOk md ops k ((ancs md l acc).getD k 0)
  | [], acc, hl, hacc, k => by
    rcases Nat.lt_or_ge k acc.length with h | h
    · exact hacc k h
    · intro o ho L hc hp i hi
      have : (ancs md [] acc).getD k 0 = 0 := by simp [ancs, List.getElem?_eq_none h]
      rw [this] at hi
      simp at hi
  | o :: l, acc, hl, hacc, k => by
    refine ancs_ok l _ (fun j => ?_) (fun k hk => ?_) k
    · rw [List.length_append, List.length_singleton, Nat.add_assoc, Nat.add_comm 1 j, hl (j + 1)]
      rfl
    · rcases Nat.lt_or_ge k acc.length with h | h
      · have := hacc k h
        rw [show ∀ x : Nat, (acc ++ [x]).getD k 0 = acc.getD k 0 by intro x; simp [List.getElem?_append_left h]]
        exact this
      · have hk' : k = acc.length := by simp at hk; omega
        subst hk'
        rw [show ∀ x : Nat, (acc ++ [x]).getD acc.length 0 = x by intro x; simp]
        intro o' ho' L hc hp i hi
        have h0 : ops[acc.length]? = some o := by simpa using hl 0
        have : o' = o := Option.some.inj (ho'.symm.trans h0)
        subst this
        refine anc_fold acc (fun k hLk i hi => ?_) o'.after.toList 0 (fun i hi => by simp at hi) (fun e he hb => hp e (by simpa using he) hb) i hi
        rcases Nat.lt_or_ge k acc.length with h | h
        · rcases hok : ops[k]? with _ | ok
          · have : k < ops.size := by
              have := (Array.getElem?_eq_some_iff.1 h0).1; omega
            simp [this] at hok
          · exact hacc k h ok hok L hc (hc k ok hok hLk) i hi
        · simp [List.getElem?_eq_none h] at hi

theorem backB_ok : ∀ (l : List Oper) (n : Nat), (∀ j, ops[n + j]? = l[j]?) → backB md l n = true → ∀ (i : Nat) o, n ≤ i → ops[i]? = some o → ∀ e ∈ o.after, Region.binds md e = true → e.on < i
  | [], n, hl, _, i, o, hi, ho => by
    have := hl (i - n)
    rw [show n + (i - n) = i by omega, ho] at this
    simp at this
  | x :: l, n, hl, hb, i, o, hi, ho => by
    simp only [backB, Bool.and_eq_true] at hb
    rcases Nat.eq_or_lt_of_le hi with h | h
    · subst h
      have := hl 0
      rw [Nat.add_zero, ho] at this
      simp at this
      subst this
      intro e he hbd
      have := List.all_eq_true.1 hb.1 e (by simpa using he)
      simpa [hbd] using this
    · exact backB_ok l (n + 1) (fun j => by rw [Nat.add_assoc, Nat.add_comm 1 j, hl (j + 1)]; rfl) hb.2 i o h ho

theorem free_of {its : List It} (h1 : backB md ops.toList 0 = true) (h2 : freeB md ops its (ancs md ops.toList []) = true) : Free md ops its := by
  refine ⟨fun i o ho => backB_ok ops.toList 0 (fun j => by simp) h1 i o (Nat.zero_le _) ho, fun i j x y a b hij hx hy ha hb => ?_⟩
  have hj : j < ops.size := (Array.getElem?_eq_some_iff.1 hy).1
  have h3 := List.all_eq_true.1 h2 j (List.mem_range.2 hj)
  have h4 := List.all_eq_true.1 h3 i (List.mem_range.2 hij)
  simp only [hx, hy, ha, hb, Bool.or_eq_true] at h4
  rcases h4 with h4 | h4
  · exact .inr fun L hc hp => ancs_ok ops.toList [] (fun j => by simp) (fun k hk => by simp at hk) j y hy L hc hp i h4
  · exact .inl h4

/-! the walk through all orders -/
theorem countP_lt {p q : Nat → Bool} : ∀ (l : List Nat) (i : Nat), i ∈ l → (∀ k ∈ l, q k = true → p k = true) → p i = true → q i = false → l.countP q < l.countP p
  | [], _, h, _, _, _ => by cases h
  | a :: l, i, h, hqp, hp, hq => by
    have hle : l.countP q ≤ l.countP p := List.countP_mono_left fun k hk hqk => hqp k (List.mem_cons_of_mem _ hk) hqk
    rcases List.mem_cons.1 h with rfl | h1
    · rw [List.countP_cons_of_pos hp, List.countP_cons_of_neg (by simp [hq])]
      omega
    · have ih := countP_lt l i h1 (fun k hk => hqp k (List.mem_cons_of_mem _ hk)) hp hq
      rw [List.countP_cons, List.countP_cons]
      have : (if q a = true then 1 else 0) ≤ (if p a = true then 1 else 0) := by
        by_cases hqa : q a = true
        · rw [if_pos hqa, if_pos (hqp a (by simp) hqa)]; exact Nat.le_refl _
        · rw [if_neg hqa]; exact Nat.zero_le _
      omega

variable {cx : Cx} {its : List It} {S0 : St} {Q : Exit → Act → World → Prop}

theorem stL_congr {L L' : Nat → Bool} (h : ∀ i, i < its.length → L i = L' i) : stL its S0 L = stL its S0 L' := by
  unfold stL
  congr 2
  apply List.filter_congr
  rintro ⟨it, i⟩ hp
  exact h i (List.getElem?_eq_some_iff.1 (mem_zip hp)).1

theorem draw_wp (hg : cx.Good) (ok : ItsOk cx ops its S0) (fr : Free md ops its) (hQ : ∀ a w, Sim cx (stL its S0 fun _ => true) a w → Q .normal a w) :
    ∀ (fuel : Nat) (listed : Array Bool) (a : Act) (w : World), listed.size = ops.size → Clo md ops (fun k => listed.getD k false) → (List.range ops.size).countP (fun k => !listed.getD k false) ≤ fuel →
      Sim cx (stL its S0 fun k => listed.getD k false) a w → wpAny cx.P md ops Q fuel listed a w := by
  have done : ∀ (listed : Array Bool) (a : Act) (w : World), listed.size = ops.size → Region.ready md ops listed = [] → Sim cx (stL its S0 fun k => listed.getD k false) a w → Q .normal a w := by
    intro listed a w hsz hr hs
    have all : ∀ i, i < ops.size → listed.getD i false = true := by
      intro i
      induction i using Nat.strongRecOn with
      | _ i ih =>
        intro hi
        cases hl : listed.getD i false with
        | true => rfl
        | false =>
          have : i ∈ Region.ready md ops listed := mem_ready.2 ⟨getD_in (by omega) hl, ops[i], by simp [hi], fun e he hb => ih e.on (fr.back i ops[i] (by simp [hi]) e he hb) (by
            have := fr.back i ops[i] (by simp [hi]) e he hb; omega)⟩
          rw [hr] at this
          cases this
    refine hQ a w ?_
    rwa [stL_congr (L' := fun _ => true) fun i hi => all i (by rw [← ok.len]; exact hi)] at hs
  intro fuel
  induction fuel with
  | zero =>
    intro listed a w hsz hc hn hs
    have hr : Region.ready md ops listed = [] := by
      rw [List.eq_nil_iff_forall_not_mem]
      intro i hi
      obtain ⟨h1, o, ho, _⟩ := mem_ready.1 hi
      have hlt : i < ops.size := (Array.getElem?_eq_some_iff.1 ho).1
      have : 0 < (List.range ops.size).countP (fun k => !listed.getD k false) := List.countP_pos_iff.2 ⟨i, List.mem_range.2 hlt, by simpa using getD_both h1⟩
      omega
    exact ⟨hr, done listed a w hsz hr hs⟩
  | succ fuel ih =>
    intro listed a w hsz hc hn hs
    refine ⟨fun hr => done listed a w hsz hr hs, fun i hi => ?_⟩
    obtain ⟨h1, o, ho, hpre⟩ := mem_ready.1 hi
    have hlt : i < ops.size := (Array.getElem?_eq_some_iff.1 ho).1
    have hit : its[i]? = some (its[i]'(by rw [ok.len]; exact hlt)) := by simp [ok.len, hlt]
    have hst := step_at ok fr hc ho hit (getD_both h1) hpre
    have hins := stL_insert ok fr hc ho hit (getD_both h1)
    have hset : ∀ k, (listed.setIfInBounds i true).getD k false = (listed.getD k false || k == i) := fun k => by
      by_cases hk : i = k
      · subst hk
        have : i < listed.size := by omega
        simp [this]
      · rw [getD_set_ne false hk]
        simp [Ne.symm hk]
    have key : ∀ a' w', Sim cx ((its[i]'(by rw [ok.len]; exact hlt)).e.app (stL its S0 fun k => listed.getD k false)) a' w' → wpAny cx.P md ops Q fuel (listed.setIfInBounds i true) a' w' := fun a' w' h' => by
      refine ih _ a' w' (by simpa using hsz) (fun k o' hk hl e he hb => ?_) ?_ ?_
      · simp only [hset] at hl ⊢
        by_cases hki : k = i
        · subst hki
          have : o' = o := Option.some.inj (hk.symm.trans ho)
          subst this
          rw [hpre e he hb]; rfl
        · have : listed.getD k false = true := by simpa [hki] using hl
          have h2 : listed.getD e.on false = true := hc k o' hk this e he hb
          rw [h2]; rfl
      · have : (List.range ops.size).countP (fun k => !(listed.setIfInBounds i true).getD k false) < (List.range ops.size).countP (fun k => !listed.getD k false) := by
          refine countP_lt _ i (List.mem_range.2 hlt) (fun k _ hk => ?_) (by simpa using getD_both h1) ?_
          · simp only [hset] at hk
            simp only [Bool.not_or, Bool.and_eq_true] at hk
            exact hk.1
          · simp only [hset]; simp
        omega
      · rw [← hins] at h'
        rwa [show (fun k => (listed.setIfInBounds i true).getD k false) = fun k => (listed.getD k false || k == i) from funext hset]
    unfold wpOp
    simp only [ho]
    rcases gstep_cases hg hs hst with ⟨g1, g2⟩ | ⟨g1, g2⟩
    · rw [if_pos g1]
      exact .inl (Oper.wp_mono (fun a' w' h' => key a' w' h') (g2 Q))
    · rw [if_neg (by simp [g1])]
      exact key _ _ g2

theorem SimU.drawn {S : St} {a : Act} {w : World} {μ : Nat → Option (Nat × Nat)} (h : SimU cx S a w μ) (n : Nat) : SimU cx S a { w with drawn := n } μ := by
  have hk : ∀ b, b < w.heap.size → ¬ XX cx S.M μ b → ({ w with drawn := n } : World).heap[b]? = w.heap[b]? ∧ ¬ XX cx S.M μ b := fun b _ hx => ⟨rfl, hx⟩
  have hB : ∀ t g blk', S.M t = (g, some blk') → g ≤ (S.M t).1 → ∃ blk, S.M t = (g, some blk) ∧ μ t = μ t ∧ blk'.esz = blk.esz := fun t g blk' e _ => ⟨blk', e, rfl, rfl⟩
  exact {
    blk := fun t g blk e => BlkRep.mono (w := w) (w' := { w with drawn := n }) (st := blk.st) (Nat.le_refl _) hk (fun _ => Nat.le_refl _) hB rfl (fun _ _ _ => rfl) (h.blk t g blk e)
    slot := fun i => SVRep.mono (w := w) (w' := { w with drawn := n }) (Nat.le_refl _) hk (fun _ => Nat.le_refl _) hB _ _ (h.slot i)
    place := h.place
    uniq := h.uniq
    anc := h.anc
    below := ⟨h.below.os, h.below.tape, h.below.output, h.below.size, h.below.block⟩
    size := h.size
    defers := h.defers }

/-- A region that draws. -/
theorem awp_draw (hg : cx.Good) (hm : cx.P.follows .mixedOrders = true) {id : Nat} {K : Exit → St → Prop} {S : St} (ok : ItsOk cx ops its S) (fr : Free .any ops its) (hK : K .normal (stL its S fun _ => true)) : AWp cx (.region id ops true) K S := by
  rintro a w ⟨μ, hs⟩
  refine wp_region_any hm (draw_wp hg ok fr (fun a' w' h => ⟨_, h, hK⟩) ops.size _ a _ (by simp) (fun k o _ hl => ?_) ?_ ?_)
  · have hl' : (Array.replicate ops.size false).getD k false = true := hl
    rw [getD_replicate_false] at hl'; cases hl'
  · exact Nat.le_trans List.countP_le_length (by simp)
  · have : stL its S (fun k => (Array.replicate ops.size false).getD k false) = S := by
      unfold stL
      have : (its.zipIdx.filter fun p => (Array.replicate ops.size false).getD p.2 false) = [] := by
        rw [List.filter_eq_nil_iff]
        intro p _
        rw [getD_replicate_false]
        simp
      rw [this]
      rfl
    rw [this]
    exact ⟨μ, hs.drawn _⟩

/-- The steps in the text's order, with their footprints. -/
def DChain (cx : Cx) (ops : Array Oper) : List Oper → List It → St → (List It → St → Prop) → Prop
  | [], its, S, K => K its.reverse S
  | o :: l, its, S, K => ∃ it : It, (it.e.dst = o.dst ∧ (∀ p ∈ it.e.ms, p.1 ∈ it.R) ∧ (it.e.kv = true → it.R ≠ [])) ∧ GStepL cx ops it.R S o it.e ∧ DChain cx ops l (it :: its) (it.e.app S) K

theorem stL_take (n : Nat) : stL its S0 (fun k => decide (k < n)) = foldE ((its.take n).map (·.e)) S0 := by
  unfold stL
  congr 1
  have : ∀ (l : List It) (m n : Nat), ((l.zipIdx m).filter fun p => decide (p.2 < m + n)).map (·.1.e) = (l.take n).map (·.e) := by
    intro l
    induction l with
    | nil => intro m n; simp
    | cons a l ih =>
      intro m n
      rw [List.zipIdx_cons]
      cases n with
      | zero =>
        rw [List.filter_eq_nil_iff.2]
        · simp
        · intro p hp
          rcases List.mem_cons.1 hp with rfl | hp
          · simp
          · have := List.mem_zipIdx (x := p.1) (i := p.2) hp
            simp; omega
      | succ n =>
        rw [List.filter_cons_of_pos (by simp)]
        have := ih (m + 1) n
        rw [show m + 1 + n = m + (n + 1) by omega] at this
        simp [this]
  simpa using this its 0 n

theorem foldE_app (l l' : List Eff) (S : St) : foldE (l ++ l') S = foldE l' (foldE l S) := by simp [foldE]

theorem dchain_its : ∀ (l : List Oper) (pre : List Oper) (its : List It) (S : St) (K : List It → St → Prop), ops.toList = pre ++ l → its.length = pre.length → S = foldE (its.reverse.map (·.e)) S0 →
    (∀ (i : Nat) o it, pre[i]? = some o → its.reverse[i]? = some it → it.e.dst = o.dst ∧ (∀ p ∈ it.e.ms, p.1 ∈ it.R) ∧ (it.e.kv = true → it.R ≠ []) ∧ GStepL cx ops it.R (foldE ((its.reverse.take i).map (·.e)) S0) o it.e) →
    DChain cx ops l its S K → ∃ its', ItsOk cx ops its' S0 ∧ K its' (stL its' S0 fun _ => true)
  | [], pre, its, S, K, h1, h2, h3, h4, h => by
    refine ⟨its.reverse, ⟨?_, fun i o it ho hit => ?_⟩, ?_⟩
    · have := congrArg List.length h1; simp at this; simp; omega
    · rw [stL_take]
      refine h4 i o it ?_ hit
      rw [List.append_nil] at h1
      rw [← h1]; simpa using ho
    · have e : stL its.reverse S0 (fun _ => true) = S := by
        rw [h3, ← List.take_length (l := its.reverse), ← stL_take, List.take_length]
        exact stL_congr fun i hi => by simp at hi; simp [hi]
      rw [e]
      exact h
  | o :: l, pre, its, S, K, h1, h2, h3, h4, h => by
    obtain ⟨it, ⟨a1, a2, a3⟩, a4, a5⟩ := h
    refine dchain_its l (pre ++ [o]) (it :: its) _ K (by simp [h1]) (by simp [h2]) ?_ ?_ a5
    · rw [List.reverse_cons, List.map_append, foldE_app, ← h3]
      rfl
    · intro i o' it' ho hit
      rw [List.reverse_cons] at hit ⊢
      rcases Nat.lt_or_ge i pre.length with hlt | hge
      · rw [List.getElem?_append_left hlt] at ho
        have hl : i < its.reverse.length := by simp; omega
        rw [List.getElem?_append_left hl] at hit
        rw [List.take_append_of_le_length (by omega)]
        exact h4 i o' it' ho hit
      · rw [List.getElem?_append_right hge] at ho
        have hi : i - pre.length = 0 := by
          have := (List.getElem?_eq_some_iff.1 ho).1
          simp at this; omega
        rw [hi] at ho
        simp only [List.getElem?_cons_zero, Option.some.injEq] at ho
        subst ho
        rw [List.getElem?_append_right (by simp; omega)] at hit
        have hi2 : i - its.reverse.length = 0 := by simp; omega
        rw [hi2] at hit
        simp only [List.getElem?_cons_zero, Option.some.injEq] at hit
        subst hit
        have hi3 : i = its.reverse.length := by simp; omega
        rw [hi3, List.take_append_of_le_length (Nat.le_refl _), List.take_length, ← h3]
        exact ⟨a1, a2, a3, a4⟩

/-- A region that draws, walked once, in the order of its text. -/
theorem awp_draw_chain (hg : cx.Good) (hm : cx.P.follows .mixedOrders = true) {id : Nat} {K : Exit → St → Prop} {S : St} (hb : backB .any ops.toList 0 = true)
    (h : DChain cx ops ops.toList [] S fun its S' => freeB .any ops its (ancs .any ops.toList []) = true ∧ K .normal S') : AWp cx (.region id ops true) K S := by
  obtain ⟨its, h1, h2, h3⟩ := dchain_its (S0 := S) ops.toList [] [] S _ (by simp) rfl rfl (fun i o it ho => by simp at ho) h
  exact awp_draw hg hm h1 (free_of hb h2) h3

end
end Go.Ab
