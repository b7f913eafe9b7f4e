/- Ab19, Ab20, Ab21. -/
import Derived.Test.YtjlfgobbieljoaaDoorBogG06
set_option linter.all false
set_option linter.unusedVariables false
namespace Go.Ab
open Go.RowKit
section
variable {md : Region.Mode} {ops : Array Oper}
def AncOk (md : Region.Mode) (ops : Array Oper) (k : Nat) (bits : Nat) : Prop :=
  ∀ o, ops[k]? = some o → ∀ L : Nat → Bool, Clo md ops L → (∀ e ∈ o.after, Region.binds md e = true → L e.on = true) → ∀ i, bits.testBit i = true → L i = true
theorem anc_fold {L : Nat → Bool} (acc : List Nat) (hacc : ∀ k, L k = true → ∀ i, (acc.getD k 0).testBit i = true → L i = true) : ∀ (es : List Edge) (s : Nat),
    (∀ i, s.testBit i = true → L i = true) → (∀ e ∈ es, Region.binds md e = true → L e.on = true) →
    ∀ i, (es.foldl (fun s e => if Region.binds md e then s ||| 2 ^ e.on ||| acc.getD e.on 0 else s) s).testBit i = true → L i = true
  | [], s, hs, _, i, h => hs i h
  | e :: es, s, hs, he, i, h => by
    refine anc_fold acc hacc es _ (fun i hi => ?_) (fun e' h' => he e' (List.mem_cons_of_mem _ h')) i h
    replace hi : (if Region.binds md e then s ||| 2 ^ e.on ||| acc.getD e.on 0 else s).testBit i = true := hi
    split at hi
    · rename_i hb
      simp only [Nat.testBit_or, Bool.or_eq_true] at hi
      have hon := he e (by simp) hb
      rcases hi with (hi | hi) | hi
      · exact hs i hi
      · rw [Nat.testBit_two_pow] at hi
        simp only [decide_eq_true_eq] at hi
        rw [← hi]; exact hon
      · exact hacc _ hon i hi
    · exact hs i hi
theorem ancs_ok : ∀ (l : List Oper) (acc : List Nat), (∀ j, ops[acc.length + j]? = l[j]?) → (∀ k, k < acc.length → AncOk md ops k (acc.getD k 0)) →
    ∀ k, AncOk md ops k ((ancs md l acc).getD k 0)
  | [], acc, hl, hacc, k => by
    rcases Nat.lt_or_ge k acc.length with h | h
    · exact hacc k h
    · intro o ho L hc hp i hi
      have : (ancs md [] acc).getD k 0 = 0 := by simp [ancs, List.getElem?_eq_none h]
      rw [this] at hi
      simp at hi
  | o :: l, acc, hl, hacc, k => by
    refine ancs_ok l _ (fun j => ?_) (fun k hk => ?_) k
    · rw [List.length_append, List.length_singleton, Nat.add_assoc, Nat.add_comm 1 j, hl (j + 1)]
      rfl
    · rcases Nat.lt_or_ge k acc.length with h | h
      · have := hacc k h
        rw [show ∀ x : Nat, (acc ++ [x]).getD k 0 = acc.getD k 0 by intro x; simp [List.getElem?_append_left h]]
        exact this
      · have hk' : k = acc.length := by simp at hk; omega
        subst hk'
        rw [show ∀ x : Nat, (acc ++ [x]).getD acc.length 0 = x by intro x; simp]
        intro o' ho' L hc hp i hi
        have h0 : ops[acc.length]? = some o := by simpa using hl 0
        have : o' = o := Option.some.inj (ho'.symm.trans h0)
        subst this
        refine anc_fold acc (fun k hLk i hi => ?_) o'.after.toList 0 (fun i hi => by simp at hi) (fun e he hb => hp e (by simpa using he) hb) i hi
        rcases Nat.lt_or_ge k acc.length with h | h
        · rcases hok : ops[k]? with _ | ok
          · have : k < ops.size := by
              have := (Array.getElem?_eq_some_iff.1 h0).1; omega
            simp [this] at hok
          · exact hacc k h ok hok L hc (hc k ok hok hLk) i hi
        · simp [List.getElem?_eq_none h] at hi
theorem backB_ok : ∀ (l : List Oper) (n : Nat), (∀ j, ops[n + j]? = l[j]?) → backB md l n = true → ∀ (i : Nat) o, n ≤ i → ops[i]? = some o → ∀ e ∈ o.after, Region.binds md e = true → e.on < i
  | [], n, hl, _, i, o, hi, ho => by
    have := hl (i - n)
    rw [show n + (i - n) = i by omega, ho] at this
    simp at this
  | x :: l, n, hl, hb, i, o, hi, ho => by
    simp only [backB, Bool.and_eq_true] at hb
    rcases Nat.eq_or_lt_of_le hi with h | h
    · subst h
      have := hl 0
      rw [Nat.add_zero, ho] at this
      simp at this
      subst this
      intro e he hbd
      have := List.all_eq_true.1 hb.1 e (by simpa using he)
      simpa [hbd] using this
    · exact backB_ok l (n + 1) (fun j => by rw [Nat.add_assoc, Nat.add_comm 1 j, hl (j + 1)]; rfl) hb.2 i o h ho
theorem free_of {its : List It} (h1 : backB md ops.toList 0 = true) (h2 : freeB md ops its (ancs md ops.toList []) = true) : Free md ops its := by
  refine ⟨fun i o ho => backB_ok ops.toList 0 (fun j => by simp) h1 i o (Nat.zero_le _) ho, fun i j x y a b hij hx hy ha hb => ?_⟩
  have hj : j < ops.size := (Array.getElem?_eq_some_iff.1 hy).1
  have h3 := List.all_eq_true.1 h2 j (List.mem_range.2 hj)
  have h4 := List.all_eq_true.1 h3 i (List.mem_range.2 hij)
  simp only [hx, hy, ha, hb, Bool.or_eq_true] at h4
  rcases h4 with h4 | h4
  · exact .inr fun L hc hp => ancs_ok ops.toList [] (fun j => by simp) (fun k hk => by simp at hk) j y hy L hc hp i h4
  · exact .inl h4
theorem countP_lt {p q : Nat → Bool} : ∀ (l : List Nat) (i : Nat), i ∈ l → (∀ k ∈ l, q k = true → p k = true) → p i = true → q i = false → l.countP q < l.countP p
  | [], _, h, _, _, _ => by cases h
  | a :: l, i, h, hqp, hp, hq => by
    have hle : l.countP q ≤ l.countP p := List.countP_mono_left fun k hk hqk => hqp k (List.mem_cons_of_mem _ hk) hqk
    rcases List.mem_cons.1 h with rfl | h1
    · rw [List.countP_cons_of_pos hp, List.countP_cons_of_neg (by simp [hq])]
      omega
    · have ih := countP_lt l i h1 (fun k hk => hqp k (List.mem_cons_of_mem _ hk)) hp hq
      rw [List.countP_cons, List.countP_cons]
      have : (if q a = true then 1 else 0) ≤ (if p a = true then 1 else 0) := by
        by_cases hqa : q a = true
        · rw [if_pos hqa, if_pos (hqp a (by simp) hqa)]; exact Nat.le_refl _
        · rw [if_neg hqa]; exact Nat.zero_le _
      omega
variable {cx : Cx} {its : List It} {S0 : St} {Φ : St → Prop} {Q : Exit → Act → World → Prop}
theorem stL_congr {L L' : Nat → Bool} (h : ∀ i, i < its.length → L i = L' i) : stL its S0 L = stL its S0 L' := by
  unfold stL
  congr 2
  apply List.filter_congr
  rintro ⟨it, i⟩ hp
  exact h i (List.getElem?_eq_some_iff.1 (mem_zip hp)).1
theorem draw_wp (hg : cx.Good) {n : Nat} (ok : ItsOk Φ cx ops its S0) (fr : Free md ops its) (hQ : ∀ a w, Sim cx (stL its S0 fun _ => true) a w → Q .normal a w) :
    ∀ (fuel : Nat) (listed : Array Bool) (a : Act) (w : World), listed.size = ops.size → Clo md ops (fun k => listed.getD k false) → (List.range ops.size).countP (fun k => !listed.getD k false) ≤ fuel →
      Sim cx (stL its S0 fun k => listed.getD k false) a w → wpAnyIn cx.fence n cx.P md ops Q fuel listed a w := by
  have done : ∀ (listed : Array Bool) (a : Act) (w : World), listed.size = ops.size → Region.ready md ops listed = [] → Sim cx (stL its S0 fun k => listed.getD k false) a w → Q .normal a w := by
    intro listed a w hsz hr hs
    have all : ∀ i, i < ops.size → listed.getD i false = true := by
      intro i
      induction i using Nat.strongRecOn with
      | _ i ih =>
        intro hi
        cases hl : listed.getD i false with
        | true => rfl
        | false =>
          have : i ∈ Region.ready md ops listed := mem_ready.2 ⟨getD_in (by omega) hl, ops[i], by simp [hi], fun e he hb => ih e.on (fr.back i ops[i] (by simp [hi]) e he hb) (by
            have := fr.back i ops[i] (by simp [hi]) e he hb; omega)⟩
          rw [hr] at this
          cases this
    refine hQ a w ?_
    rwa [stL_congr (L' := fun _ => true) fun i hi => all i (by rw [← ok.len]; exact hi)] at hs
  intro fuel
  induction fuel with
  | zero =>
    intro listed a w hsz hc hn hs
    have hr : Region.ready md ops listed = [] := by
      rw [List.eq_nil_iff_forall_not_mem]
      intro i hi
      obtain ⟨h1, o, ho, _⟩ := mem_ready.1 hi
      have hlt : i < ops.size := (Array.getElem?_eq_some_iff.1 ho).1
      have : 0 < (List.range ops.size).countP (fun k => !listed.getD k false) := List.countP_pos_iff.2 ⟨i, List.mem_range.2 hlt, by simpa using getD_both h1⟩
      omega
    exact ⟨hr, done listed a w hsz hr hs⟩
  | succ fuel ih =>
    intro listed a w hsz hc hn hs
    refine ⟨fun hr => done listed a w hsz hr hs, fun i hi => ?_⟩
    obtain ⟨h1, o, ho, hpre⟩ := mem_ready.1 hi
    have hlt : i < ops.size := (Array.getElem?_eq_some_iff.1 ho).1
    have hit : its[i]? = some (its[i]'(by rw [ok.len]; exact hlt)) := by simp [ok.len, hlt]
    have hst := step_at ok fr hc ho hit (getD_both h1) hpre
    have hins := stL_insert ok fr hc ho hit (getD_both h1)
    have hset : ∀ k, (listed.setIfInBounds i true).getD k false = (listed.getD k false || k == i) := fun k => by
      by_cases hk : i = k
      · subst hk
        have : i < listed.size := by omega
        simp [this]
      · rw [getD_set_ne false hk]
        simp [Ne.symm hk]
    have key : ∀ a' w', Sim cx ((its[i]'(by rw [ok.len]; exact hlt)).e.app (stL its S0 fun k => listed.getD k false)) a' w' → wpAnyIn cx.fence n cx.P md ops Q fuel (listed.setIfInBounds i true) a' w' := fun a' w' h' => by
      refine ih _ a' w' (by simpa using hsz) (fun k o' hk hl e he hb => ?_) ?_ ?_
      · simp only [hset] at hl ⊢
        by_cases hki : k = i
        · subst hki
          have : o' = o := Option.some.inj (hk.symm.trans ho)
          subst this
          rw [hpre e he hb]; rfl
        · have : listed.getD k false = true := by simpa [hki] using hl
          have h2 : listed.getD e.on false = true := hc k o' hk this e he hb
          rw [h2]; rfl
      · have : (List.range ops.size).countP (fun k => !(listed.setIfInBounds i true).getD k false) < (List.range ops.size).countP (fun k => !listed.getD k false) := by
          refine countP_lt _ i (List.mem_range.2 hlt) (fun k _ hk => ?_) (by simpa using getD_both h1) ?_
          · simp only [hset] at hk
            simp only [Bool.not_or, Bool.and_eq_true] at hk
            exact hk.1
          · simp only [hset]; simp
        omega
      · rw [← hins] at h'
        rwa [show (fun k => (listed.setIfInBounds i true).getD k false) = fun k => (listed.getD k false || k == i) from funext hset]
    unfold wpOpIn
    simp only [ho]
    rcases gstep_cases hg hs hst with ⟨g1, g2⟩ | ⟨g1, g2⟩
    · rw [if_pos g1]
      exact Oper.wpIn_mono (fun a' w' h' => key a' w' h') (g2.wpIn hs n Q)
    · rw [if_neg (by simp [g1])]
      exact ⟨fun _ _ => trivial, key _ _ g2⟩
theorem SimU.drawn {S : St} {a : Act} {w : World} {μ : Nat → Option (Nat × Nat)} (h : SimU cx S a w μ) (n : Nat) : SimU cx S a { w with drawn := n } μ := by
  have hk : ∀ b, b < w.heap.size → ¬ XX cx S.M μ b → ({ w with drawn := n } : World).heap[b]? = w.heap[b]? ∧ ¬ XX cx S.M μ b := fun b _ hx => ⟨rfl, hx⟩
  have hB : ∀ t g blk', S.M t = (g, some blk') → g ≤ (S.M t).1 → ∃ blk, S.M t = (g, some blk) ∧ μ t = μ t ∧ blk'.esz = blk.esz := fun t g blk' e _ => ⟨blk', e, rfl, rfl⟩
  exact {
    blk := fun t g blk e => BlkRep.mono (w := w) (w' := { w with drawn := n }) (st := blk.st) (Nat.le_refl _) hk (fun _ => Nat.le_refl _) hB rfl (fun _ _ _ => rfl) (h.blk t g blk e)
    slot := fun i => SVRep.mono (w := w) (w' := { w with drawn := n }) (Nat.le_refl _) hk (fun _ => Nat.le_refl _) hB _ _ (h.slot i)
    place := h.place
    uniq := h.uniq
    anc := h.anc
    below := ⟨h.below.os, h.below.tape, h.below.output, h.below.size, h.below.block⟩
    size := h.size
    defers := h.defers }
theorem awp_draw (hg : cx.Good) (hm : cx.P.follows .mixedOrders = true) {id : Nat} {K : Exit → St → Prop} {S : St} (ok : ItsOk Φ cx ops its S) (fr : Free .any ops its) (hK : K .normal (stL its S fun _ => true)) : AWp cx (.region id ops true) K S := by
  rintro a w ⟨μ, hs⟩
  refine wpIn_region_any hm (draw_wp hg ok fr (fun a' w' h => .inl ⟨_, h, hK⟩) ops.size _ a _ (by simp) (fun k o _ hl => ?_) ?_ ?_)
  · have hl' : (Array.replicate ops.size false).getD k false = true := hl
    rw [getD_replicate_false] at hl'; cases hl'
  · exact Nat.le_trans List.countP_le_length (by simp)
  · have : stL its S (fun k => (Array.replicate ops.size false).getD k false) = S := by
      unfold stL
      have : (its.zipIdx.filter fun p => (Array.replicate ops.size false).getD p.2 false) = [] := by
        rw [List.filter_eq_nil_iff]
        intro p _
        rw [getD_replicate_false]
        simp
      rw [this]
      rfl
    rw [this]
    exact ⟨μ, hs.drawn _⟩
def DChain (cx : Cx) (ops : Array Oper) : List Oper → List It → St → (List It → St → Prop) → Prop
  | [], its, S, K => K its.reverse S
  | o :: l, its, S, K => ∃ it : It, (it.e.dst = o.dst ∧ (∀ p ∈ it.e.ms, p.1 ∈ it.R) ∧ (it.e.kv = true → it.R ≠ [])) ∧ GStepL cx ops it.R S o it.e ∧ DChain cx ops l (it :: its) (it.e.app S) K
theorem stL_take (n : Nat) : stL its S0 (fun k => decide (k < n)) = foldE ((its.take n).map (·.e)) S0 := by
  unfold stL
  congr 1
  have : ∀ (l : List It) (m n : Nat), ((l.zipIdx m).filter fun p => decide (p.2 < m + n)).map (·.1.e) = (l.take n).map (·.e) := by
    intro l
    induction l with
    | nil => intro m n; simp
    | cons a l ih =>
      intro m n
      rw [List.zipIdx_cons]
      cases n with
      | zero =>
        rw [List.filter_eq_nil_iff.2]
        · simp
        · intro p hp
          rcases List.mem_cons.1 hp with rfl | hp
          · simp
          · have := List.mem_zipIdx (x := p.1) (i := p.2) hp
            simp; omega
      | succ n =>
        rw [List.filter_cons_of_pos (by simp)]
        have := ih (m + 1) n
        rw [show m + 1 + n = m + (n + 1) by omega] at this
        simp [this]
  simpa using this its 0 n
theorem foldE_app (l l' : List Eff) (S : St) : foldE (l ++ l') S = foldE l' (foldE l S) := by simp [foldE]
theorem dchain_its : ∀ (l : List Oper) (pre : List Oper) (its : List It) (S : St) (K : List It → St → Prop), ops.toList = pre ++ l → its.length = pre.length → S = foldE (its.reverse.map (·.e)) S0 →
    (∀ (i : Nat) o it, pre[i]? = some o → its.reverse[i]? = some it → it.e.dst = o.dst ∧ (∀ p ∈ it.e.ms, p.1 ∈ it.R) ∧ (it.e.kv = true → it.R ≠ []) ∧ GStepL cx ops it.R (foldE ((its.reverse.take i).map (·.e)) S0) o it.e) →
    DChain cx ops l its S K → ∃ its', ItsOk (fun _ => True) cx ops its' S0 ∧ K its' (stL its' S0 fun _ => true)
  | [], pre, its, S, K, h1, h2, h3, h4, h => by
    refine ⟨its.reverse, ⟨?_, fun i o it ho hit => ?_, fun _ => trivial⟩, ?_⟩
    · have := congrArg List.length h1; simp at this; simp; omega
    · rw [stL_take]
      obtain ⟨q1, q2, q3, q4⟩ := h4 i o it (by rw [List.append_nil] at h1; rw [← h1]; simpa using ho) hit
      exact ⟨q1, q2, q3, fun T _ t1 t2 => q4 T t1 t2⟩
    · have e : stL its.reverse S0 (fun _ => true) = S := by
        rw [h3, ← List.take_length (l := its.reverse), ← stL_take, List.take_length]
        exact stL_congr fun i hi => by simp at hi; simp [hi]
      rw [e]
      exact h
  | o :: l, pre, its, S, K, h1, h2, h3, h4, h => by
    obtain ⟨it, ⟨a1, a2, a3⟩, a4, a5⟩ := h
    refine dchain_its l (pre ++ [o]) (it :: its) _ K (by simp [h1]) (by simp [h2]) ?_ ?_ a5
    · rw [List.reverse_cons, List.map_append, foldE_app, ← h3]
      rfl
    · intro i o' it' ho hit
      rw [List.reverse_cons] at hit ⊢
      rcases Nat.lt_or_ge i pre.length with hlt | hge
      · rw [List.getElem?_append_left hlt] at ho
        have hl : i < its.reverse.length := by simp; omega
        rw [List.getElem?_append_left hl] at hit
        rw [List.take_append_of_le_length (by omega)]
        exact h4 i o' it' ho hit
      · rw [List.getElem?_append_right hge] at ho
        have hi : i - pre.length = 0 := by
          have := (List.getElem?_eq_some_iff.1 ho).1
          simp at this; omega
        rw [hi] at ho
        simp only [List.getElem?_cons_zero, Option.some.injEq] at ho
        subst ho
        rw [List.getElem?_append_right (by simp; omega)] at hit
        have hi2 : i - its.reverse.length = 0 := by simp; omega
        rw [hi2] at hit
        simp only [List.getElem?_cons_zero, Option.some.injEq] at hit
        subst hit
        have hi3 : i = its.reverse.length := by simp; omega
        rw [hi3, List.take_append_of_le_length (Nat.le_refl _), List.take_length, ← h3]
        exact ⟨a1, a2, a3, a4⟩
theorem awp_draw_chain (hg : cx.Good) (hm : cx.P.follows .mixedOrders = true) {id : Nat} {K : Exit → St → Prop} {S : St} (hb : backB .any ops.toList 0 = true)
    (h : DChain cx ops ops.toList [] S fun its S' => freeB .any ops its (ancs .any ops.toList []) = true ∧ K .normal S') : AWp cx (.region id ops true) K S := by
  obtain ⟨its, h1, h2, h3⟩ := dchain_its (S0 := S) ops.toList [] [] S _ (by simp) rfl rfl (fun i o it ho => by simp at ho) h
  exact awp_draw hg hm h1 (free_of hb h2) h3
def freeC (md : Region.Mode) (ops : Array Oper) (m : List (Nat × Nat × Option Blk)) (its : List It) (anc : List Nat) : Bool :=
  freeB md ops its anc || (nvE m && (nvI its && freeB md ops (its.map It.unkv) anc))
end
end Go.Ab
set_option linter.unusedVariables false
namespace Go.Ab
open Go.RowKit
def lk : List (Nat × SV) → Nat → SV
  | [], _ => .dead
  | (k, v) :: l, i => if i = k then v else lk l i
def mkM : List (Nat × Nat × Option Blk) → Nat → Nat × Option Blk
  | [], _ => (0, none)
  | (k, v) :: l, i => if i = k then v else mkM l i
theorem upd_lk (l : List (Nat × SV)) (d : Nat) (v : SV) : upd (lk l) d v = lk ((d, v) :: l) := by
  funext i; simp [upd, lk]
theorem upd_mkM (l : List (Nat × Nat × Option Blk)) (d : Nat) (v : Nat × Option Blk) : upd (mkM l) d v = mkM ((d, v) :: l) := by
  funext i; simp [upd, mkM]
theorem none_mkM : (fun _ => ((0, none) : Nat × Option Blk)) = mkM [] := by funext i; rfl
def zipSV : Nat → List DV → List (Nat × SV)
  | _, [] => []
  | n, d :: ds => (n, .dv d) :: zipSV (n + 1) ds
theorem startF_lk (ds : List DV) : startF ds = lk (zipSV 0 ds) := by
  have : ∀ (ds : List DV) (n i : Nat), lk (zipSV n ds) i = if n ≤ i then startF ds (i - n) else .dead := by
    intro ds
    induction ds with
    | nil => intro n i; simp [zipSV, lk, startF]
    | cons d ds ih =>
      intro n i
      simp only [zipSV, lk, ih]
      by_cases h : i = n
      · subst h; simp [startF]
      · by_cases h2 : n ≤ i
        · have : n + 1 ≤ i := by omega
          have e : i - n = (i - (n + 1)) + 1 := by omega
          simp only [h, if_false, this, if_true, h2, e, startF, List.getElem?_cons_succ]
        · have : ¬ n + 1 ≤ i := by omega
          simp [h, this, h2]
  funext i
  rw [this]
  simp
def killV (e : Nat × Option Blk) : Nat × Option Blk :=
  match e.2 with
  | some b => if b.st = 2 then (e.1, none) else e
  | none => e
def nvL : List (Nat × Nat × Option Blk) → List (Nat × Nat × Option Blk)
  | [] => []
  | (k, v) :: l => (k, killV v) :: nvL l
theorem noViews_mkM (l : List (Nat × Nat × Option Blk)) : noViews (mkM l) = mkM (nvL l) := by
  funext i
  induction l with
  | nil => rfl
  | cons p l ih =>
    obtain ⟨k, v⟩ := p
    by_cases h : i = k
    · subst h
      simp only [noViews, mkM, nvL, if_true]
      obtain ⟨g, b⟩ := v
      cases b <;> rfl
    · have e1 : mkM ((k, v) :: l) i = mkM l i := by simp [mkM, h]
      have e2 : mkM (nvL ((k, v) :: l)) i = mkM (nvL l) i := by simp [mkM, nvL, h]
      rw [e2, ← ih]
      unfold noViews
      rw [e1]
def svTag : SV → List Nat
  | .sl t _ _ _ => [t]
  | .pt t _ _ => [t]
  | _ => []
def deref : Op → List Operand
  | .fieldAddr _ x _ => [x]
  | .indexAddr _ x _ => [x]
  | .load _ x => [x]
  | .slice _ x _ _ _ => [x]
  | .nilCheck x => [x]
  | .store _ x _ => [x]
  | .convert _ _ x => [x]
  | .call c => match c.callee with
    | .builtin .append => c.args.toList
    | .builtin .len => c.args.toList
    | _ => []
  | _ => []
def opTags (S : St) (op : Op) : List Nat := (deref op).flatMap fun x => svTag (S.ev x)
def outTags (dst : Option Nat) : Out → List Nat
  | .val _ => []
  | .mk _ _ => dst.toList
  | .app t _ _ => dst.toList ++ t.toList
  | .put t _ => [t]
def effOf (n : Nat) (S : St) (dst : Option Nat) : Out → Option Eff
  | .val r => match dst with
    | some d => if d < n then some ⟨some d, r, false, []⟩ else none
    | none => some ⟨none, .dead, false, []⟩
  | .mk blk k => match dst with
    | some d => if d < n then some ⟨some d, if blk.row then .sl d ((S.M d).1 + 1) 0 k else .pt d ((S.M d).1 + 1) 0, false, [(d, (S.M d).1 + 1, some blk)]⟩ else none
    | none => none
  | .app t blk k => match dst with
    | some d => if d < n then
        match t with
        | none => some ⟨some d, .sl d ((S.M d).1 + 1) 0 k, false, [(d, (S.M d).1 + 1, some blk)]⟩
        | some t => match (S.M t).2 with
          | some b => if OwS b.st then some ⟨some d, .sl d ((S.M d).1 + 1) 0 k, false, [(t, (S.M t).1, some { b with st := 2 }), (d, (S.M d).1 + 1, some blk)]⟩ else none
          | none => none
      else none
    | none => none
  | .put t blk => match dst with
    | some _ => none
    | none => match (S.M t).2 with
      | some b => if OwS b.st then some ⟨none, .dead, true, [(t, (S.M t).1, some blk)]⟩ else none
      | none => none
theorem apply_eff {n : Nat} {S : St} {dst : Option Nat} {out : Out} {e : Eff} (h : effOf n S dst out = some e) : S.apply n dst out = some (e.app S) := by
  cases out with
  | val r =>
    cases dst with
    | none => simp only [effOf, Option.some.injEq] at h; subst h; rfl
    | some d =>
      simp only [effOf] at h
      split at h
      · rename_i hd; simp only [Option.some.injEq] at h; subst h; simp [St.apply, hd, Eff.app, setM]
      · cases h
  | mk blk k =>
    cases dst with
    | none => simp [effOf] at h
    | some d =>
      simp only [effOf] at h
      split at h
      · rename_i hd; simp only [Option.some.injEq] at h; subst h; simp [St.apply, hd, Eff.app, setM]
      · cases h
  | app t blk k =>
    cases dst with
    | none => simp [effOf] at h
    | some d =>
      simp only [effOf] at h
      split at h
      · rename_i hd
        cases t with
        | none => simp only [Option.some.injEq] at h; subst h; simp [St.apply, hd, Eff.app, setM]
        | some t =>
          simp only at h
          split at h
          · rename_i b hb
            split at h
            · rename_i hst
              simp only [Option.some.injEq] at h; subst h; simp [St.apply, hd, Eff.app, setM, hb, hst]
            · cases h
          · cases h
      · cases h
  | put t blk =>
    cases dst with
    | some d => simp [effOf] at h
    | none =>
      simp only [effOf] at h
      split at h
      · rename_i b hb
        split at h
        · rename_i hst
          simp only [Option.some.injEq] at h; subst h; simp [St.apply, Eff.app, setM, hb, hst]
        · cases h
      · cases h
theorem eff_dst {n : Nat} {S : St} {dst : Option Nat} {out : Out} {e : Eff} (h : effOf n S dst out = some e) : e.dst = dst ∧ (∀ p ∈ e.ms, p.1 ∈ outTags dst out) ∧ (e.kv = true → outTags dst out ≠ []) := by
  cases out with
  | val r => cases dst <;> simp only [effOf] at h <;> (try split at h) <;> (first | (simp only [Option.some.injEq] at h; subst h; simp; done) | cases h)
  | mk blk k => cases dst <;> simp only [effOf] at h <;> (try split at h) <;> (first | (simp only [Option.some.injEq] at h; subst h; simp [outTags]; done) | cases h)
  | app t blk k =>
    cases dst with
    | none => simp [effOf] at h
    | some d =>
      simp only [effOf] at h
      split at h
      · cases t with
        | none => simp only [Option.some.injEq] at h; subst h; simp [outTags]
        | some t =>
          simp only at h
          split at h
          · split at h
            · simp only [Option.some.injEq] at h; subst h; simp [outTags]
            · cases h
          · cases h
      · cases h
  | put t blk =>
    cases dst with
    | some d => simp [effOf] at h
    | none =>
      simp only [effOf] at h
      split at h
      · split at h
        · simp only [Option.some.injEq] at h; subst h; simp [outTags]
        · cases h
      · cases h
theorem eff_congr {n : Nat} {S T : St} {dst : Option Nat} {out : Out} (h : ∀ t ∈ outTags dst out, T.M t = S.M t) : effOf n T dst out = effOf n S dst out := by
  cases out with
  | val r => rfl
  | mk blk k =>
    cases dst with
    | none => rfl
    | some d => have := h d (by simp [outTags]); simp only [effOf, this]
  | app t blk k =>
    cases dst with
    | none => rfl
    | some d =>
      have h1 := h d (by simp [outTags])
      cases t with
      | none => simp only [effOf, h1]
      | some t => have h2 := h t (by simp [outTags]); simp only [effOf, h1, h2]
  | put t blk =>
    cases dst with
    | some d => rfl
    | none => have h1 := h t (by simp [outTags]); simp only [effOf, h1]
theorem blkOf_congr {M M' : Nat → Nat × Option Blk} {s : SV} (h : ∀ t ∈ svTag s, M' t = M t) : blkOf M' s = blkOf M s := by
  cases s with
  | sl t g o n => simp only [blkOf, h t (by simp [svTag])]
  | pt t g o => simp only [blkOf, h t (by simp [svTag])]
  | _ => rfl
theorem outOf_congr {P : Program} {S T : St} {op : Op} (h1 : ∀ x ∈ op.operands, T.ev x = S.ev x) (h2 : ∀ x ∈ deref op, blkOf T.M (S.ev x) = blkOf S.M (S.ev x)) : outOf P T op = outOf P S op := by
  have lk1 : ∀ x ∈ deref op, T.ev x = S.ev x → T.look x = S.look x := fun x hx he => by
    unfold St.look
    rw [he, h2 x hx]
  cases op with
  | move x => simp only [outOf, h1 x (by simp [Op.operands])]
  | assign x => simp only [outOf, h1 x (by simp [Op.operands])]
  | pick c x y => simp only [outOf, h1 c (by simp [Op.operands]), h1 x (by simp [Op.operands]), h1 y (by simp [Op.operands])]
  | binOp op t x y t' => simp only [outOf, h1 x (by simp [Op.operands]), h1 y (by simp [Op.operands])]
  | unOp op t x => simp only [outOf, h1 x (by simp [Op.operands])]
  | convert s d x => simp only [outOf, h1 x (by simp [Op.operands]), lk1 x (by simp [deref]) (h1 x (by simp [Op.operands]))]
  | index t x y => simp only [outOf, h1 x (by simp [Op.operands]), h1 y (by simp [Op.operands])]
  | extract x i => simp only [outOf, h1 x (by simp [Op.operands])]
  | fieldAddr s x f => simp only [outOf, lk1 x (by simp [deref]) (h1 x (by simp [Op.operands]))]
  | indexAddr t x y => simp only [outOf, lk1 x (by simp [deref]) (h1 x (by simp [Op.operands])), h1 y (by simp [Op.operands])]
  | load t x => simp only [outOf, lk1 x (by simp [deref]) (h1 x (by simp [Op.operands]))]
  | nilCheck x => simp only [outOf, lk1 x (by simp [deref]) (h1 x (by simp [Op.operands]))]
  | slice t x lo hi mx =>
    have e : ∀ z : Option Operand, (∀ y, z = some y → y ∈ (Op.slice t x lo hi mx).operands) → z.map T.ev = z.map S.ev := fun z hz => by
      cases z with
      | none => rfl
      | some y => simp [h1 y (hz y rfl)]
    simp only [outOf, lk1 x (by simp [deref]) (h1 x (by simp [Op.operands]))]
    rw [e lo (fun y hy => by subst hy; simp [Op.operands]), e hi (fun y hy => by subst hy; simp [Op.operands]), e mx (fun y hy => by subst hy; simp [Op.operands])]
  | build t ps =>
    simp only [outOf]
    rw [List.map_congr_left (g := fun p : Nat × Operand => (p.1, S.ev p.2)) fun p hp => by
      rw [h1 p.2 (by simp only [Op.operands, List.mem_toArray, List.mem_map]; exact ⟨p, hp, rfl⟩)]]
  | alloc t => rfl
  | box t x => simp only [outOf, h1 x (by simp [Op.operands])]
  | makeSlice t l c => simp only [outOf, h1 l (by simp [Op.operands]), h1 c (by simp [Op.operands])]
  | buildSlice t n ps =>
    simp only [outOf]
    rw [List.map_congr_left (g := fun p : Nat × Operand => (p.1, S.ev p.2)) fun p hp => by
      rw [h1 p.2 (by simp only [Op.operands, List.mem_toArray, List.mem_map]; exact ⟨p, hp, rfl⟩)]]
  | store t x v => simp only [outOf, lk1 x (by simp [deref]) (h1 x (by simp [Op.operands])), h1 v (by simp [Op.operands])]
  | call c =>
    obtain ⟨callee, args, ts⟩ := c
    simp only [outOf, callOut]
    have ha : ∀ x ∈ args.toList, T.ev x = S.ev x := fun x hx => h1 x (by simp [Op.operands, Call.operands]; exact .inr (by simpa using hx))
    cases callee with
    | builtin b =>
      simp only
      generalize hl : args.toList = l at ha
      unfold builtinOut
      split
      · rename_i s x t tx _
        rw [lk1 s (by simp [deref, hl]) (ha s (by simp)), lk1 x (by simp [deref, hl]) (ha x (by simp))]
      · rename_i x t _
        rw [lk1 x (by simp [deref, hl]) (ha x (by simp))]
      · rename_i x y
        rw [ha x (by simp), ha y (by simp)]
      · rename_i x y
        rw [ha x (by simp), ha y (by simp)]
      · rfl
    | _ => rfl
  | _ => rfl
theorem looks_tmp {ops : Array Oper} {o : Oper} {t : Nat} (h : Operand.tmp t ∈ o.op.operands) : t ∈ o.looksAt ops :=
  List.mem_append_left _ (List.mem_filterMap.2 ⟨.tmp t, by simpa using h, rfl⟩)
theorem ev_congr {S T : St} {ops : Array Oper} {o : Oper} (h : ∀ s ∈ o.looksAt ops, T.F s = S.F s) : ∀ x ∈ o.op.operands, T.ev x = S.ev x := fun x hx => by
  cases x with
  | tmp t => exact h t (looks_tmp hx)
  | _ => rfl
section
variable {cx : Cx} {ops : Array Oper} {S : St} {o : Oper}
theorem stepL_out {out : Out} {e : Eff} (h : outOf cx.P S o.op = some out) (he : effOf cx.n S o.dst out = some e) (T : St) (h1 : ∀ s ∈ o.looksAt ops, T.F s = S.F s) (h2 : ∀ t ∈ opTags S o.op ++ outTags o.dst out, T.M t = S.M t) : Step cx T o (e.app T) := by
  refine .out out ?_ (apply_eff ?_)
  · rw [outOf_congr (ev_congr h1) fun x hx => ?_]
    · exact h
    · exact blkOf_congr fun t ht => h2 t (List.mem_append_left _ (List.mem_flatMap.2 ⟨x, hx, ht⟩))
  · rw [eff_congr fun t ht => h2 t (List.mem_append_right _ ht)]
    exact he
theorem gstepL_out {out : Out} {e : Eff} (hgd : o.guard = none) (h : outOf cx.P S o.op = some out) (he : effOf cx.n S o.dst out = some e) : GStepL cx ops (opTags S o.op ++ outTags o.dst out) S o e := by
  intro T h1 h2
  unfold GStep
  rw [hgd]
  exact stepL_out h he T h1 h2
theorem looks_guard {j t : Nat} {want : Bool} (hgd : o.guard = some (j, want)) (ht : slotOf ops j = some t) : t ∈ o.looksAt ops := by
  unfold Oper.looksAt
  refine List.mem_append_right _ ?_
  rw [hgd]
  unfold slotOf at ht
  simp [ht]
theorem gstepL_guard {out : Out} {e : Eff} {j t : Nat} {want : Bool} (hgd : o.guard = some (j, want)) (ht : slotOf ops j = some t) (hb : S.F t = .dv (.bool want)) (h : outOf cx.P S o.op = some out) (he : effOf cx.n S o.dst out = some e) :
    GStepL cx ops (opTags S o.op ++ outTags o.dst out) S o e := by
  intro T h1 h2
  unfold GStep
  rw [hgd]
  exact ⟨t, ht, .inl ⟨by rw [h1 t (looks_guard hgd ht)]; exact hb, stepL_out h he T h1 h2⟩⟩
theorem gstepL_skip {j t : Nat} {want : Bool} (hgd : o.guard = some (j, want)) (ht : slotOf ops j = some t) (hb : NotW want (S.F t)) : GStepL cx ops [] S o ⟨o.dst, .tup [], false, []⟩ := by
  intro T h1 h2
  unfold GStep
  rw [hgd]
  refine ⟨t, ht, .inr ⟨by rw [h1 t (looks_guard hgd ht)]; exact hb, ?_⟩⟩
  cases o.dst <;> rfl
def rst (R : List Nat) (M : Nat → Nat × Option Blk) : Nat → Nat × Option Blk := fun t => if R.contains t then M t else ((M t).1, none)
theorem Data.weakM {ok : Nat → Prop} {okd : DV → Prop} {M M' : Nat → Nat × Option Blk} (hM : ∀ t g blk, M t = (g, some blk) → M' t = (g, some blk)) {s : SV} {d : DV} (h : Data ok okd M s d) : Data ok okd M' s d := by
  induction h with
  | dv d hd => exact .dv d hd
  | nils => exact .nils
  | emp b => exact .emp b
  | sl t g off n blk l s e hst hn he hc _ ih => exact .sl t g off n blk l s (hM _ _ _ e) hst hn he hc ih
  | pt t g off blk cs s e hst hc _ ih => exact .pt t g off blk cs s (hM _ _ _ e) hst hc ih
  | agg ss ds hl _ ih => exact .agg ss ds hl ih
theorem ArgsSV.weakM {ok : Nat → Prop} {okd : DV → Prop} {M M' : Nat → Nat × Option Blk} (hM : ∀ t g blk, M t = (g, some blk) → M' t = (g, some blk)) : ∀ {ss : List SV} {ds : List DV}, ArgsSV (Data ok okd M) ss ds → ArgsSV (Data ok okd M') ss ds
  | [], [], _ => trivial
  | _ :: _, _ :: _, h => ⟨h.1.weakM hM, ArgsSV.weakM hM h.2⟩
  | [], _ :: _, h => h.elim
  | _ :: _, [], h => h.elim
theorem rst_le {R : List Nat} {M M' : Nat → Nat × Option Blk} (h : ∀ t ∈ R, M' t = M t) : ∀ t g blk, rst R M t = (g, some blk) → M' t = (g, some blk) := fun t g blk e => by
  unfold rst at e
  split at e
  · rename_i hc
    rw [h t (by simpa using hc)]; exact e
  · simp at e
def impTags (d : Nat) : Nat → List R1 → List Nat
  | _, [] => []
  | j, .dv _ :: rs => impTags d (j + 1) rs
  | j, .row .. :: rs => (d + 1000 * j) :: impTags d (j + 1) rs
def resTags (d : Nat) : Res → List Nat
  | .one r => impTags d 0 [r]
  | .many rs => impTags d 0 rs
def impMs (d : Nat) : Nat → List R1 → (Nat → Nat × Option Blk) → List (Nat × Nat × Option Blk)
  | _, [], _ => []
  | j, .dv _ :: rs, M => impMs d (j + 1) rs M
  | j, .row esz elem n cs :: rs, M => (d + 1000 * j, (M (d + 1000 * j)).1 + 1, some ⟨cs.map .dv, esz, elem, 0, true⟩) :: impMs d (j + 1) rs (upd M (d + 1000 * j) ((M (d + 1000 * j)).1 + 1, some ⟨cs.map .dv, esz, elem, 0, true⟩))
theorem imp_ms (d : Nat) : ∀ (rs : List R1) (j : Nat) (M T : Nat → Nat × Option Blk), (∀ t ∈ impTags d j rs, T t = M t) → (impSV d j rs T).1 = (impSV d j rs M).1 ∧ (impSV d j rs T).2 = setM T (impMs d j rs M)
  | [], j, M, T, h => ⟨rfl, rfl⟩
  | .dv x :: rs, j, M, T, h => by
    obtain ⟨h1, h2⟩ := imp_ms d rs (j + 1) M T h
    exact ⟨by simp only [impSV, h1], by simp only [impSV, impMs, h2]⟩
  | .row esz elem n cs :: rs, j, M, T, h => by
    have h0 := h (d + 1000 * j) (by simp [impTags])
    have := imp_ms d rs (j + 1) (upd M (d + 1000 * j) ((M (d + 1000 * j)).1 + 1, some ⟨cs.map .dv, esz, elem, 0, true⟩)) (upd T (d + 1000 * j) ((M (d + 1000 * j)).1 + 1, some ⟨cs.map .dv, esz, elem, 0, true⟩)) (fun t ht => by
      by_cases e : t = d + 1000 * j
      · subst e; rw [upd_same, upd_same]
      · rw [upd_ne _ _ _ _ e, upd_ne _ _ _ _ e]; exact h t (by simp [impTags, ht]))
    refine ⟨?_, ?_⟩
    · simp only [impSV, h0, this.1]
    · simp only [impSV, impMs, h0, setM, this.2]
def resMs (d : Nat) (M : Nat → Nat × Option Blk) : Res → List (Nat × Nat × Option Blk)
  | .one r => impMs d 0 [r] M
  | .many rs => impMs d 0 rs M
theorem res_ms (d : Nat) (res : Res) (M T : Nat → Nat × Option Blk) (h : ∀ t ∈ resTags d res, T t = M t) : (impRes d T res).1 = (impRes d M res).1 ∧ (impRes d T res).2 = setM T (resMs d M res) := by
  cases res with
  | one r => have := imp_ms d [r] 0 M T h; exact ⟨by simp only [impRes, this.1], this.2⟩
  | many rs => have := imp_ms d rs 0 M T h; exact ⟨by simp only [impRes, this.1], this.2⟩
theorem impMs_tags (d : Nat) : ∀ (rs : List R1) (j : Nat) (M : Nat → Nat × Option Blk), ∀ p ∈ impMs d j rs M, p.1 ∈ impTags d j rs
  | [], _, _, p, h => by cases h
  | .dv x :: rs, j, M, p, h => impMs_tags d rs (j + 1) M p h
  | .row esz elem n cs :: rs, j, M, p, h => by
    rcases List.mem_cons.1 h with rfl | h
    · simp [impTags]
    · exact List.mem_cons_of_mem _ (impMs_tags d rs (j + 1) _ p h)
def resEff (d : Nat) (S : St) (res : Res) : Eff := ⟨some d, (impRes d S.M res).1, false, resMs d S.M res⟩
theorem resEff_app {n d : Nat} {S T : St} {res : Res} (hd : d < n) (h : ∀ t ∈ resTags d res, T.M t = S.M t) : T.applyRes n (some d) res = some ((resEff d S res).app T) := by
  have := res_ms d res S.M T.M h
  simp [St.applyRes, hd, this.1, this.2, resEff, Eff.app]
theorem stepL_call {d : Nat} (hdst : o.dst = some d) (hdn : d < cx.n) {f' : Operand} {args : Array Operand} {ts : Array TypeId} (ho : o.op = .call { callee := .value f', args := args, argTypes := ts }) {f : FuncId} {pre ds caps : List DV} (hf : S.ev f' = .dv (.fn f pre caps))
    {R : List Nat} {res : Res} (hc : (ArgsSV (Borrow (rst R S.M)) (args.toList.map S.ev) ds ∧ ACallsF cx.P f (pre ++ ds ++ caps) res) ∨ (ArgsSV (Lasting (rst R S.M)) (args.toList.map S.ev) ds ∧ ACalls cx.P f (pre ++ ds ++ caps) res))
    (T : St) (h1 : ∀ s ∈ o.looksAt ops, T.F s = S.F s) (h2 : ∀ t ∈ R ++ resTags d res, T.M t = S.M t) : Step cx T o ((resEff d S res).app T) := by
  have hev := ev_congr h1
  have hf' : T.ev f' = .dv (.fn f pre caps) := by
    rw [hev f' (by rw [ho]; simp [Op.operands, Call.operands])]; exact hf
  have ha : args.toList.map T.ev = args.toList.map S.ev := List.map_congr_left fun x hx => hev x (by rw [ho]; simp [Op.operands, Call.operands]; exact .inr (by simpa using hx))
  have hr : T.applyRes cx.n o.dst res = some ((resEff d S res).app T) := by
    rw [hdst]; exact resEff_app hdn fun t ht => h2 t (List.mem_append_right _ ht)
  have hM := rst_le (R := R) (M := S.M) (M' := T.M) fun t ht => h2 t (List.mem_append_left _ ht)
  rcases hc with ⟨c1, c2⟩ | ⟨c1, c2⟩
  · exact .callF f' args ts f pre caps ds res ho hf' (by rw [ha]; exact c1.weakM hM) c2 hr
  · exact .callA f' args ts f pre caps ds res ho hf' (by rw [ha]; exact c1.weakM hM) c2 hr
end
section
variable {cx : Cx} {ops : Array Oper}
theorem nv_mkM : ∀ {m : List (Nat × Nat × Option Blk)}, nvE m = true → NoV (mkM m)
  | [], _, t, g, b, e => by simp [mkM] at e
  | (k, v) :: m, h, t, g, b, e => by
    simp only [nvE, List.all_cons, Bool.and_eq_true] at h
    simp only [mkM] at e
    split at e
    · have h1 := h.1
      rw [e] at h1
      simpa using h1
    · exact nv_mkM (m := m) (by simpa [nvE] using h.2) t g b e
theorem awp_draw_chain' (hg : cx.Good) (hm : cx.P.follows .mixedOrders = true) {id : Nat} {K : Exit → St → Prop} {F : Nat → SV} {m : List (Nat × Nat × Option Blk)} (hb : backB .any ops.toList 0 = true)
    (h : DChain cx ops ops.toList [] ⟨F, mkM m⟩ fun its S' => freeC .any ops m its (ancs .any ops.toList []) = true ∧ K .normal S') : AWp cx (.region id ops true) K ⟨F, mkM m⟩ := by
  obtain ⟨its, h1, h2, h3⟩ := dchain_its (S0 := ⟨F, mkM m⟩) ops.toList [] [] ⟨F, mkM m⟩ _ (by simp) rfl rfl (fun i o it ho => by simp at ho) h
  simp only [freeC, Bool.or_eq_true, Bool.and_eq_true] at h2
  rcases h2 with h2 | ⟨h2, h4, h5⟩
  · exact awp_draw hg hm h1 (free_of hb h2) h3
  · have h0 := nv_mkM h2
    refine awp_draw hg hm (h1.unkv h0 h4) (free_of hb h5) ?_
    rw [(stL_unkv h0 h4 _).1]
    exact h3
end
end Go.Ab
set_option linter.unusedVariables false
namespace Go.Ab
open Go.RowKit
def isLive (M : Nat → Nat × Option Blk) (t g : Nat) : Prop := (M t).1 = g ∧ (M t).2.isSome = true
mutual
def svLe (τ : Nat → Option Nat) (M M' : Nat → Nat × Option Blk) : SV → SV → Prop
  | .dead, _ => True
  | .dv d, .dv d' => d = d'
  | .dv d, .nils => Data (fun st => st = 1) (fun _ => True) M .nils d
  | .dv d, .sl t g o n => Data (fun st => st = 1) (fun _ => True) M (.sl t g o n) d
  | .dv d, .pt t g o => Data (fun st => st = 1) (fun _ => True) M (.pt t g o) d
  | .dv d, .agg cs => Data (fun st => st = 1) (fun _ => True) M (.agg cs) d
  | .dv d, .emp b => Data (fun st => st = 1) (fun _ => True) M (.emp b) d
  | .nils, .nils => True
  | .emp b', .emp b => b' = b
  | .sl t' g' o' n', .sl t g o n => τ t' = some t ∧ isLive M t g ∧ isLive M' t' g' ∧ o' = o ∧ n' = n
  | .sl t' g' o' n', .nils => τ t' = none ∧ isLive M' t' g' ∧ o' = 0 ∧ n' = 0
  | .pt t' g' o', .pt t g o => τ t' = some t ∧ isLive M t g ∧ isLive M' t' g' ∧ o' = o
  | .agg cs', .agg cs => svLes τ M M' cs' cs
  | .agg cs', .dv (.agg ds) => cs' = ds.map .dv
  | .tup cs', .tup cs => svLes τ M M' cs' cs
  | .val u', .val u => u' = u
  | _, _ => False
def svLes (τ : Nat → Option Nat) (M M' : Nat → Nat × Option Blk) : List SV → List SV → Prop
  | [], [] => True
  | c :: cs, d :: ds => svLe τ M M' c d ∧ svLes τ M M' cs ds
  | _, _ => False
end
def blkLe (τ : Nat → Option Nat) (M M' : Nat → Nat × Option Blk) (t' : Nat) (b' : Blk) : Prop :=
  match τ t' with
  | none => (b'.cells = [] ∧ b'.row = true) ∧ b'.st < 3
  | some t => ∃ b, (M t).2 = some b ∧ b'.esz = b.esz ∧ b'.elem = b.elem ∧ b'.st = b.st ∧ b'.row = b.row ∧ svLes τ M M' b'.cells b.cells
def FLe (τ : Nat → Option Nat) (S : St) (M' : Nat → Nat × Option Blk) : List (Nat × SV) → Prop
  | [] => True
  | (k, v) :: l => svLe τ S.M M' v (S.F k) ∧ FLe τ S M' l
def MLe (τ : Nat → Option Nat) (S : St) (M' : Nat → Nat × Option Blk) : List (Nat × Nat × Option Blk) → Prop
  | [] => True
  | (k, _, some b) :: l => blkLe τ S.M M' k b ∧ MLe τ S M' l
  | (_, _, none) :: l => MLe τ S M' l
section
variable {cx : Cx} {S S' : St} {a : Act} {w : World} {μ : Nat → Option (Nat × Nat)}
theorem svLes_len {τ : Nat → Option Nat} {M M' : Nat → Nat × Option Blk} : ∀ {cs ds : List SV}, svLes τ M M' cs ds → cs.length = ds.length
  | [], [], _ => rfl
  | _ :: cs, _ :: ds, h => by simp only [svLes] at h; simp [svLes_len h.2]
  | [], _ :: _, h => by simp only [svLes] at h
  | _ :: _, [], h => by simp only [svLes] at h
def relμ (τ : Nat → Option Nat) (μ : Nat → Option (Nat × Nat)) : Nat → Option (Nat × Nat) := fun t => match τ t with | some t => μ t | none => none
mutual
theorem svLe_rep (hg : cx.Good) (h : SimU cx S a w μ) {τ : Nat → Option Nat} {M' : Nat → Nat × Option Blk} (hM : ∀ t' g' b' t, M' t' = (g', some b') → τ t' = some t → ∃ b, (S.M t).2 = some b ∧ b'.esz = b.esz)
    {X' : Nat → Prop} (hX : ∀ b, X' b → XX cx S.M μ b) : ∀ (s' s : SV) (v : Value), svLe τ S.M M' s' s → SVRep w S.M μ (XX cx S.M μ) s v → SVRep w M' (relμ τ μ) X' s' v
  | .dead, _, _, _, _ => trivial
  | .dv d, .dv d', v, e, hv => by simp only [svLe] at e; subst e; simp only [SVRep] at hv ⊢; exact hv.weaken hX
  | .dv d, .nils, v, e, hv => by simp only [svLe] at e; simp only [SVRep]; exact (Lasting.rep hg h e hv).weaken hX
  | .dv d, .sl t g o n, v, e, hv => by simp only [svLe] at e; simp only [SVRep]; exact (Lasting.rep hg h e hv).weaken hX
  | .dv d, .pt t g o, v, e, hv => by simp only [svLe] at e; simp only [SVRep]; exact (Lasting.rep hg h e hv).weaken hX
  | .dv d, .agg cs, v, e, hv => by simp only [svLe] at e; simp only [SVRep]; exact (Lasting.rep hg h e hv).weaken hX
  | .dv d, .emp b, v, e, hv => by simp only [svLe] at e; simp only [SVRep]; exact (Lasting.rep hg h e hv).weaken hX
  | .nils, .nils, v, _, hv => by simpa only [SVRep] using hv
  | .emp b', .emp b, v, e, hv => by simp only [svLe] at e; subst e; simpa only [SVRep] using hv
  | .sl t' g' o' n', .sl t g o n, v, e, hv => by
    simp only [svLe] at e
    obtain ⟨e1, ⟨e2, e3⟩, ⟨e4, e5⟩, rfl, rfl⟩ := e
    simp only [SVRep] at hv ⊢
    refine ⟨⟨hv.1.1, by omega⟩, fun b' hb' => ?_⟩
    obtain ⟨b, hb⟩ := Option.isSome_iff_exists.1 e3
    have hMt : S.M t = (g, some b) := by rw [← e2, ← hb]
    have := hv.2 b hMt
    obtain ⟨b2, q1, q2⟩ := hM t' g' b' t hb' e1
    have : b2 = b := by rw [hb] at q1; exact (Option.some.inj q1).symm
    subst this
    have hrel : relμ τ μ t' = μ t := by simp [relμ, e1]
    rw [hrel, q2]
    assumption
  | .sl t' g' o' n', .nils, v, e, hv => by
    simp only [svLe] at e
    obtain ⟨e1, ⟨e4, e5⟩, rfl, rfl⟩ := e
    simp only [SVRep] at hv ⊢
    subst hv
    refine ⟨⟨rfl, by omega⟩, fun b' hb' => ?_⟩
    have hrel : relμ τ μ t' = none := by simp [relμ, e1]
    rw [hrel]
    exact ⟨rfl, trivial, trivial⟩
  | .pt t' g' o', .pt t g o, v, e, hv => by
    simp only [svLe] at e
    obtain ⟨e1, ⟨e2, e3⟩, ⟨e4, e5⟩, rfl⟩ := e
    simp only [SVRep] at hv ⊢
    refine ⟨⟨hv.1.1, by omega⟩, fun b' hb' => ?_⟩
    obtain ⟨b, hb⟩ := Option.isSome_iff_exists.1 e3
    have hMt : S.M t = (g, some b) := by rw [← e2, ← hb]
    have hrel : relμ τ μ t' = μ t := by simp [relμ, e1]
    rw [hrel]
    exact hv.2 b hMt
  | .agg cs', .agg cs, v, e, hv => by
    simp only [svLe] at e
    simp only [SVRep] at hv ⊢
    obtain ⟨vs, rfl, hv⟩ := hv
    exact ⟨vs, rfl, svLes_rep hg h hM hX cs' cs vs e hv⟩
  | .agg cs', .dv (.agg ds), v, e, hv => by
    simp only [svLe] at e
    subst e
    simp only [SVRep] at hv ⊢
    cases hv with
    | agg _ vs hsz hc =>
      refine ⟨vs.toList, by simp, SVReps.mk (by simpa using hsz) fun j c u hj hu => ?_⟩
      simp only [List.getElem?_map, Option.map_eq_some_iff] at hj
      obtain ⟨d, hd, rfl⟩ := hj
      simp only [SVRep]
      have := hc j d hd
      have e : vs.getD j undef = u := by
        simp only [Array.getElem?_toList] at hu
        simp [hu]
      rw [e] at this
      exact this.weaken hX
  | .tup cs', .tup cs, v, e, hv => by
    simp only [svLe] at e
    simp only [SVRep] at hv ⊢
    obtain ⟨vs, rfl, hv⟩ := hv
    exact ⟨vs, rfl, svLes_rep hg h hM hX cs' cs vs e hv⟩
  | .val u', .val u, v, e, hv => by simp only [svLe] at e; subst e; simpa only [SVRep] using hv
  | .dv _, .val _, _, e, _ | .nils, .val _, _, e, _ | .emp _, .val _, _, e, _ | .sl .., .val _, _, e, _ | .pt .., .val _, _, e, _ | .agg _, .val _, _, e, _ | .tup _, .val _, _, e, _
  | .val _, .dead, _, e, _ | .val _, .dv _, _, e, _ | .val _, .nils, _, e, _ | .val _, .emp _, _, e, _ | .val _, .sl .., _, e, _ | .val _, .pt .., _, e, _ | .val _, .agg _, _, e, _ | .val _, .tup _, _, e, _ => by simp only [svLe] at e
  | .dv _, .dead, _, e, _ | .dv _, .tup _, _, e, _ | .nils, .emp _, _, e, _ | .emp _, .dead, _, e, _ | .emp _, .dv _, _, e, _ | .emp _, .nils, _, e, _ | .emp _, .sl .., _, e, _ | .emp _, .pt .., _, e, _ | .emp _, .agg _, _, e, _ | .emp _, .tup _, _, e, _ | .sl .., .emp _, _, e, _ | .pt .., .emp _, _, e, _ | .agg _, .emp _, _, e, _ | .tup _, .emp _, _, e, _ | .nils, .dead, _, e, _ | .nils, .dv _, _, e, _ | .nils, .sl .., _, e, _ | .nils, .pt .., _, e, _ | .nils, .agg _, _, e, _ | .nils, .tup _, _, e, _
  | .sl .., .dead, _, e, _ | .sl .., .dv _, _, e, _ | .sl .., .pt .., _, e, _ | .sl .., .agg _, _, e, _ | .sl .., .tup _, _, e, _
  | .pt .., .dead, _, e, _ | .pt .., .dv _, _, e, _ | .pt .., .nils, _, e, _ | .pt .., .sl .., _, e, _ | .pt .., .agg _, _, e, _ | .pt .., .tup _, _, e, _
  | .agg _, .dead, _, e, _ | .agg _, .nils, _, e, _ | .agg _, .sl .., _, e, _ | .agg _, .pt .., _, e, _ | .agg _, .tup _, _, e, _
  | .tup _, .dead, _, e, _ | .tup _, .dv _, _, e, _ | .tup _, .nils, _, e, _ | .tup _, .sl .., _, e, _ | .tup _, .pt .., _, e, _ | .tup _, .agg _, _, e, _ => by simp only [svLe] at e
  | .agg _, .dv (.bool _), _, e, _ | .agg _, .dv (.int _ _), _, e, _ | .agg _, .dv (.str _), _, e, _ | .agg _, .dv (.list _), _, e, _ | .agg _, .dv (.cptr _), _, e, _ | .agg _, .dv .nilptr, _, e, _
  | .agg _, .dv (.fn ..), _, e, _ | .agg _, .dv .nilfn, _, e, _ | .agg _, .dv (.iface ..), _, e, _ | .agg _, .dv .nilIface, _, e, _ => by simp only [svLe] at e
theorem svLes_rep (hg : cx.Good) (h : SimU cx S a w μ) {τ : Nat → Option Nat} {M' : Nat → Nat × Option Blk} (hM : ∀ t' g' b' t, M' t' = (g', some b') → τ t' = some t → ∃ b, (S.M t).2 = some b ∧ b'.esz = b.esz)
    {X' : Nat → Prop} (hX : ∀ b, X' b → XX cx S.M μ b) : ∀ (cs' cs : List SV) (vs : List Value), svLes τ S.M M' cs' cs → SVReps w S.M μ (XX cx S.M μ) cs vs → SVReps w M' (relμ τ μ) X' cs' vs
  | [], [], [], _, _ => trivial
  | c' :: cs', c :: cs, v :: vs, e, hv => by
    simp only [svLes] at e
    simp only [SVReps] at hv ⊢
    exact ⟨svLe_rep hg h hM hX c' c v e.1 hv.1, svLes_rep hg h hM hX cs' cs vs e.2 hv.2⟩
  | [], [], _ :: _, _, hv => by simp only [SVReps] at hv
  | [], _ :: _, _, e, _ => by simp only [svLes] at e
  | _ :: _, [], _, e, _ => by simp only [svLes] at e
  | _ :: _, _ :: _, [], _, hv => by simp only [SVReps] at hv
end
theorem blkLe_get {τ : Nat → Option Nat} {M M' : Nat → Nat × Option Blk} (hM : ∀ t' g' b', M' t' = (g', some b') → blkLe τ M M' t' b') : ∀ t' g' b' t, M' t' = (g', some b') → τ t' = some t → ∃ b, (M t).2 = some b ∧ b'.esz = b.esz := fun t' g' b' t e h => by
  have hbl := hM t' g' b' e
  unfold blkLe at hbl
  rw [h] at hbl
  obtain ⟨b2, q1, q2, _⟩ := hbl
  exact ⟨b2, q1, q2⟩
theorem relab_sim (hg : cx.Good) (h : SimU cx S a w μ) {τ : Nat → Option Nat} (hF : ∀ i, svLe τ S.M S'.M (S'.F i) (S.F i)) (hM : ∀ t' g' b', S'.M t' = (g', some b') → blkLe τ S.M S'.M t' b')
    (hinj : ∀ t1 t2 t, τ t1 = some t → τ t2 = some t → t1 = t2) : SimU cx S' a w (relμ τ μ) := by
  have old : ∀ t' g' b' b cap, S'.M t' = (g', some b') → relμ τ μ t' = some (b, cap) → ∃ t g blk, τ t' = some t ∧ S.M t = (g, some blk) ∧ μ t = some (b, cap) ∧ b'.esz = blk.esz ∧ b'.elem = blk.elem ∧ b'.st = blk.st ∧ b'.row = blk.row ∧ svLes τ S.M S'.M b'.cells blk.cells := by
    intro t' g' b' b cap e hm
    have hb := hM t' g' b' e
    unfold blkLe at hb
    unfold relμ at hm
    cases hτ : τ t' with
    | none => rw [hτ] at hm; cases hm
    | some t =>
      rw [hτ] at hm hb
      obtain ⟨blk, q1, q2⟩ := hb
      exact ⟨t, (S.M t).1, blk, rfl, by rw [← q1], hm, q2⟩
  have hX : ∀ b, XX cx S'.M (relμ τ μ) b → XX cx S.M μ b := by
    rintro b (⟨t', g', b', cap, e1, e2, e3⟩ | hx)
    · obtain ⟨t, g, blk, q1, q2, q3, q4, q5, q6, _⟩ := old t' g' b' b cap e1 e3
      exact .inl ⟨t, g, blk, cap, q2, by rw [← q6]; exact e2, q3⟩
    · exact .inr hx
  refine ⟨fun t' g' b' e => ?_, fun i => svLe_rep hg h (blkLe_get hM) hX _ _ _ (hF i) (h.slot i), fun t' g' b' b cap e hm => ?_, fun t1 g1 b1 t2 g2 b2 b c1 c2 hne e1 e2 hst m1 m2 => ?_, fun t' g' b' e h3 => ?anc, h.below, h.size, h.defers⟩
  case anc =>
    have hb := hM t' g' b' e
    unfold blkLe at hb
    cases hτ : τ t' with
    | none => rw [hτ] at hb; have := hb.2; omega
    | some t =>
      rw [hτ] at hb
      obtain ⟨blk, q1, q2, q3, q4, q5, q6⟩ := hb
      have := h.anc t (S.M t).1 blk (by rw [← q1]) (by omega)
      simp only [relμ, hτ, this, q4]
  · have hb := hM t' g' b' e
    unfold BlkRep
    cases hm : relμ τ μ t' with
    | none =>
      unfold blkLe at hb
      unfold relμ at hm
      cases hτ : τ t' with
      | none => rw [hτ] at hb; exact hb.1
      | some t =>
        rw [hτ] at hb hm
        obtain ⟨blk, q1, q2, q3, q4, q5, q6⟩ := hb
        have := h.blk t (S.M t).1 blk (by rw [← q1])
        unfold BlkRep at this
        have hm : μ t = none := hm
        rw [hm] at this
        have hl := svLes_len q6
        rw [this.1] at hl
        exact ⟨List.eq_nil_of_length_eq_zero hl, by rw [q5]; exact this.2⟩
    | some p =>
      obtain ⟨b, cap⟩ := p
      obtain ⟨t, g, blk, q1, q2, q3, q4, q5, q6, q7, q8⟩ := old t' g' b' b cap e hm
      have := h.blk t g blk q2
      unfold BlkRep at this
      rw [q3] at this
      obtain ⟨cur, r1, r2, r3, r4, r5⟩ := this
      have hl := svLes_len q8
      refine ⟨cur, by rw [q5]; exact r1, by omega, ?_, fun hr => by rw [q4]; exact r4 (by rw [← q7]; exact hr), fun hr => by rw [hl]; exact r5 (by rw [← q7]; exact hr)⟩
      have hall : SVReps w S.M μ (XX cx S.M μ) blk.cells (cur.toList.take blk.cells.length) := SVReps.mk (by simp; omega) fun j c u hj hu => by
        rw [List.getElem?_take] at hu
        split at hu
        · exact r3 j c u hj (by simpa using hu)
        · cases hu
      have h2 := svLes_rep hg h (blkLe_get hM) hX _ _ _ q8 hall
      intro j c u hj hu
      refine h2.get j c u hj ?_
      rw [List.getElem?_take]
      have := (List.getElem?_eq_some_iff.1 hj).1
      rw [if_pos (by omega)]
      simpa using hu
  · obtain ⟨t, g, blk, q1, q2, q3, _⟩ := old t' g' b' b cap e hm
    exact h.place t g blk b cap q2 q3
  · obtain ⟨t, g, blk, q1, q2, q3, q4, q5, q6, q7, q8⟩ := old t1 g1 b1 b c1 e1 m1
    obtain ⟨t', g', blk', q1', q2', q3', q4', q5', q6', q7', q8'⟩ := old t2 g2 b2 b c2 e2 m2
    have hne' : t ≠ t' := fun hh => hne (hinj t1 t2 t q1 (hh ▸ q1'))
    have := h.uniq t g blk t' g' blk' b c1 c2 hne' q2 q2' (by rw [← q6]; exact hst) q3 q3'
    rw [q6', svLes_len q8', svLes_len q8]
    exact this
def tauL : List (Nat × Nat) → Nat → Option Nat
  | [], _ => none
  | (k, v) :: l, i => if i = k then some v else tauL l i
theorem tauL_mem : ∀ {l : List (Nat × Nat)} {i v : Nat}, tauL l i = some v → (i, v) ∈ l
  | (k, u) :: l, i, v, h => by
    simp only [tauL] at h
    split at h
    · rename_i e; simp only [Option.some.injEq] at h; subst e; subst h; simp
    · exact List.mem_cons_of_mem _ (tauL_mem h)
theorem tauL_inj {l : List (Nat × Nat)} (h : (l.map (·.2)).Nodup) : ∀ t1 t2 t, tauL l t1 = some t → tauL l t2 = some t → t1 = t2 := by
  intro t1 t2 t h1 h2
  have m1 := tauL_mem h1
  have m2 := tauL_mem h2
  clear h1 h2
  induction l with
  | nil => cases m1
  | cons p l ih =>
    simp only [List.map_cons, List.nodup_cons] at h
    rcases List.mem_cons.1 m1 with e1 | e1 <;> rcases List.mem_cons.1 m2 with e2 | e2
    · rw [← e1] at e2; simpa using e2.symm
    · exact absurd (List.mem_map.2 ⟨_, e2, by rw [← e1]⟩) h.1
    · exact absurd (List.mem_map.2 ⟨_, e1, by rw [← e2]⟩) h.1
    · exact ih h.2 e1 e2
theorem FLe_get {τ : Nat → Option Nat} {S : St} {M' : Nat → Nat × Option Blk} : ∀ {l : List (Nat × SV)}, FLe τ S M' l → ∀ i, svLe τ S.M M' (lk l i) (S.F i)
  | [], _, i => by simp only [lk, svLe]
  | (k, v) :: l, h, i => by
    simp only [FLe] at h
    simp only [lk]
    split
    · rename_i e; subst e; exact h.1
    · exact FLe_get h.2 i
theorem MLe_get {τ : Nat → Option Nat} {S : St} {M' : Nat → Nat × Option Blk} : ∀ {m : List (Nat × Nat × Option Blk)}, MLe τ S M' m → ∀ t' g' b', mkM m t' = (g', some b') → blkLe τ S.M M' t' b'
  | [], _, t', g', b', e => by simp [mkM] at e
  | (k, g, ob) :: m, h, t', g', b', e => by
    simp only [mkM] at e
    split at e
    · rename_i hk
      subst hk
      simp only [Prod.mk.injEq] at e
      obtain ⟨rfl, rfl⟩ := e
      simp only [MLe] at h
      exact h.1
    · cases ob with
      | none => exact MLe_get (by simpa only [MLe] using h) t' g' b' e
      | some b => exact MLe_get (by simp only [MLe] at h; exact h.2) t' g' b' e
theorem Le.tell (hg : cx.Good) (τ : List (Nat × Nat)) {l : List (Nat × SV)} {m : List (Nat × Nat × Option Blk)} (hF : FLe (tauL τ) S (mkM m) l) (hM : MLe (tauL τ) S (mkM m) m) (hτ : (τ.map (·.2)).Nodup) : Le cx S ⟨lk l, mkM m⟩ := by
  rintro a w ⟨μ, h⟩
  exact ⟨_, relab_sim (S' := ⟨lk l, mkM m⟩) hg h (FLe_get hF) (MLe_get hM) (tauL_inj hτ)⟩
theorem AWp.split {c : Code} {K : Exit → St → Prop} {l : List (Nat × SV)} {m : List (Nat × Nat × Option Blk)} {t : Nat} (h0 : lk l t = .dv (.list [])) (h : ∀ b, AWp cx c K ⟨lk ((t, .emp b) :: l), mkM m⟩) : AWp cx c K ⟨lk l, mkM m⟩ := by
  rintro a w ⟨μ, hs⟩
  have hv := hs.slot t
  rw [show (⟨lk l, mkM m⟩ : St).F t = .dv (.list []) from h0] at hv
  simp only [SVRep] at hv
  have he : ∃ ad cap, a.tmps.getD t undef = .slice ad 0 cap := by
    generalize a.tmps.getD t undef = v at hv
    cases hv with
    | listNil ad cap => exact ⟨ad, cap, rfl⟩
    | list _ b off cap esz u h1 h2 h3 h4 h5 h6 => exact ⟨_, cap, rfl⟩
  obtain ⟨ad, cap, he⟩ := he
  refine h ad.isNone a w ⟨μ, ⟨hs.blk, fun i => ?_, hs.place, hs.uniq, hs.anc, hs.below, hs.size, hs.defers⟩⟩
  show SVRep w (mkM m) μ _ (lk ((t, .emp ad.isNone) :: l) i) _
  simp only [lk]
  split
  · rename_i e
    subst e
    rw [he]
    simp only [SVRep]
    exact ⟨ad, cap, rfl, rfl⟩
  · exact hs.slot i
theorem Le.freeze {t g : Nat} {b : Blk} (h0 : S.M t = (g, some b)) (hst : OwS b.st ∨ b.st = 1) : Le cx S ⟨S.F, upd S.M t (g, some { b with st := 1 })⟩ := by
  rintro a w ⟨μ, h⟩
  exact ⟨μ, frz_sim h [t] S.M _ h (by simp [frz, h0, hst])⟩
end
end Go.Ab
