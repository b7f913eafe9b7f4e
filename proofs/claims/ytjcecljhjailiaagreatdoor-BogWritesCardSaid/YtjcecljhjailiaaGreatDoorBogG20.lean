/- HeapL3, HeapD, HeapT. -/
import Derived.Test.YtjcecljhjailiaaGreatDoorBogG19
import Derived.Test.YtjcecljhjailiaaGreatDoorBogG19
import Derived.Test.YtjcecljhjailiaaGreatDoorBogG15
namespace Go.Ab.Heap
def topL (h : Hp) (c : List Int) (i : Nat) (k : Int) : List Int := (List.range h.ground.length).map fun j => ata c j - (if j = i then k * h.sp.lim i else 0) + k * lnk h i j
structure SInv (h : Hp) (a c t : List Int) : Prop where
  lc : c.length = h.ground.length
  lt : t.length = h.ground.length
  le : h.sp.Legal (ata a) (ata t)
  eq : ∀ i, i < h.ground.length → ata c i = h.sp.lft (ata a) (ata t) i
  c0 : ∀ i, i < h.ground.length → 0 ≤ ata c i
theorem ata_repl {n i : Nat} {x : Int} (hi : i < n) : ata (List.replicate n x) i = x := by
  unfold ata
  rw [List.getD_eq_getElem?_getD, List.getElem?_replicate, if_pos hi]; rfl
theorem SInv.start {h : Hp} {a : List Int} (hl : a.length = h.ground.length) (h0 : ∀ i, i < h.ground.length → 0 ≤ ata a i) : SInv h a a (List.replicate h.ground.length 0) where
  lc := hl
  lt := by simp
  le := legal_congr (fun _ _ => rfl) (fun i hi => (ata_repl hi).symm) legal_zero
  eq := fun i hi => by
    unfold SP.lft
    rw [lap_congr (s := h.sp) (u := ata (List.replicate h.ground.length 0)) (v := fun _ => 0) (fun j hj => ata_repl hj) hi, lap_zero]; omega
  c0 := h0
theorem lap_one (h : Hp) (v : VH h) {i : Nat} (hi : i < h.ground.length) (k : Int) {j : Nat} (hj : j < h.ground.length) : h.sp.lap (fun q => if q = i then k else 0) j = (if j = i then k * h.sp.lim i else 0) - k * lnk h i j := by
  rw [lap_eq]
  have e : sm (fun q => h.sp.l j q * (if q = i then k else 0)) h.sp.n = k * lnk h i j := by
    have e1 : (fun q => h.sp.l j q * (if q = i then k else 0)) = fun q => if q = i then k * lnk h j q else 0 := by
      funext q
      split
      · rw [Int.mul_comm]; rfl
      · simp
    rw [e1]
    have : ∀ m, sm (fun q => if q = i then k * lnk h j q else 0) m = if i < m then k * lnk h j i else 0 := by
      intro m
      induction m with
      | zero => simp [sm]
      | succ m ih =>
        simp only [sm]
        rw [ih]
        by_cases e : m = i
        · subst e; simp
        · rw [if_neg e]
          by_cases e2 : i < m
          · rw [if_pos e2, if_pos (by omega)]; omega
          · rw [if_neg e2, if_neg (by omega)]; omega
    rw [this, if_pos (show i < h.sp.n from hi), v.sy j i hj hi]
  rw [e]
  split
  · rename_i e; subst e; rw [Int.mul_comm]
  · simp
theorem topL_len {h : Hp} {c : List Int} {i : Nat} {k : Int} : (topL h c i k).length = h.ground.length := by simp [topL]
theorem topL_at {h : Hp} {c : List Int} {i j : Nat} {k : Int} (hj : j < h.ground.length) : ata (topL h c i k) j = ata c j - (if j = i then k * h.sp.lim i else 0) + k * lnk h i j := ata_mk hj
theorem topL_lft {h : Hp} (v : VH h) {c : List Int} {i j : Nat} {k : Int} (hi : i < h.ground.length) (hj : j < h.ground.length) : ata (topL h c i k) j = h.sp.lft (ata c) (fun q => if q = i then k else 0) j := by
  rw [topL_at hj]
  unfold SP.lft
  rw [lap_one h v hi k hj]; omega
theorem SInv.step {h : Hp} (v : VH h) {a c t : List Int} (I : SInv h a c t) {i : Nat} (hi : i < h.ground.length) {k : Int} (h0 : 0 ≤ k) (hk : k * h.sp.lim i ≤ ata c i) : SInv h a (topL h c i k) (t.set i (ata t i + k)) := by
  have et : ∀ j, ata (t.set i (ata t i + k)) j = ata t j + (if j = i then k else 0) := fun j => by
    rw [ata_set (by rw [I.lt]; exact hi)]
    split
    · rename_i e; subst e; rfl
    · omega
  refine ⟨topL_len, by simp [I.lt], ?_, fun j hj => ?_, fun j hj => ?_⟩
  · refine legal_congr (fun _ _ => rfl) (fun j hj => (et j).symm) (legal_more I.le (t' := fun j => if j = i then k else 0) ?_)
    exact legal_congr (fun j hj => I.eq j hj) (fun _ _ => rfl) (legal_one v.ok (a := ata c) hi h0 hk (lim_pos v.ok hi))
  · rw [topL_lft v hi hj]
    unfold SP.lft
    rw [I.eq j hj]
    unfold SP.lft
    rw [lap_congr (s := h.sp) (v := fun q => ata t q + if q = i then k else 0) (fun q _ => et q) hj, lap_add]; omega
  · rw [topL_at hj]
    have h1 := I.c0 j hj
    have h2 := Int.mul_nonneg h0 (v.lb i j hi hj).1
    split
    · rename_i e; subst e; omega
    · omega
theorem SInv.sum {h : Hp} (v : VH h) {a c t : List Int} (I : SInv h a c t) : sm (ata c) h.ground.length ≤ sm (ata a) h.ground.length := by
  rw [sm_congr I.eq]
  exact left_sum v.ok I.le.1
theorem SInv.bd {h : Hp} (v : VH h) {a c t : List Int} (I : SInv h a c t) (h0 : ∀ i, i < h.ground.length → 0 ≤ ata a i) {A : Int} (hA : sm (ata a) h.ground.length ≤ A) : ∀ i, i < h.ground.length → 0 ≤ ata t i ∧ ata t i ≤ h.ground.length * A := fun i hi =>
  ⟨I.le.1 i hi, often v.ok (a := ata a) (t := ata t) I.le.1 h0 hA (fun j hj => by have := I.c0 j hj; rw [I.eq j hj] at this; exact this) i hi⟩
theorem SInv.cb {h : Hp} (v : VH h) {a c t : List Int} (I : SInv h a c t) {A : Int} (hA : sm (ata a) h.ground.length ≤ A) : ∀ i, i < h.ground.length → 0 ≤ ata c i ∧ ata c i ≤ A := fun i hi =>
  ⟨I.c0 i hi, Int.le_trans (sm_ge_at (f := ata c) (n := h.ground.length) I.c0 hi) (Int.le_trans (I.sum v) hA)⟩
def calmB (h : Hp) (c : List Int) : Prop := ∀ i, i < h.ground.length → ata c i < h.sp.lim i
theorem SInv.isStl {h : Hp} {a c t : List Int} (I : SInv h a c t) (hc : calmB h c) : h.sp.Stl (ata a) (ata t) :=
  ⟨⟨I.le.1, fun i hi => by rw [← I.eq i hi]; exact hc i hi⟩, I.le⟩
def smeas (h : Hp) (a t : List Int) : Nat := (h.ground.length * (h.ground.length * sm (ata a) h.ground.length) - sm (ata t) h.ground.length).toNat
theorem sm_set {t : List Int} {n i : Nat} {x : Int} (hl : t.length = n) (hi : i < n) : sm (ata (t.set i x)) n = sm (ata t) n + (x - ata t i) := by
  have : ∀ m, m ≤ n → sm (ata (t.set i x)) m = sm (ata t) m + if i < m then x - ata t i else 0 := by
    intro m
    induction m with
    | zero => intro _; simp [sm]
    | succ m ih =>
      intro hm
      simp only [sm]
      rw [ih (by omega), ata_set (by omega)]
      by_cases e : m = i
      · subst e; rw [if_pos rfl, if_neg (by omega), if_pos (by omega)]; omega
      · rw [if_neg e]
        by_cases e2 : i < m
        · rw [if_pos e2, if_pos (by omega)]; omega
        · rw [if_neg e2, if_neg (by omega)]; omega
  rw [this n (Nat.le_refl _), if_pos hi]
theorem SInv.tsum {h : Hp} (v : VH h) {a c t : List Int} (I : SInv h a c t) (h0 : ∀ i, i < h.ground.length → 0 ≤ ata a i) : sm (ata t) h.ground.length ≤ h.ground.length * (h.ground.length * sm (ata a) h.ground.length) := by
  have := sm_le (f := ata t) (g := fun _ => h.ground.length * sm (ata a) h.ground.length) (n := h.ground.length) fun i hi => (I.bd v h0 (Int.le_refl _) i hi).2
  rwa [sm_const] at this
theorem smeas_lt {h : Hp} (v : VH h) {a c t : List Int} (I : SInv h a c t) (h0 : ∀ i, i < h.ground.length → 0 ≤ ata a i) {i : Nat} (hi : i < h.ground.length) {k : Int} (h1 : 1 ≤ k) (hk : k * h.sp.lim i ≤ ata c i) : smeas h a (t.set i (ata t i + k)) < smeas h a t := by
  have h2 := (I.step v hi (by omega) hk).tsum v h0
  have h3 := sm_set (x := ata t i + k) I.lt hi
  unfold smeas
  omega
theorem stl_ex {h : Hp} (v : VH h) {a : List Int} (h0 : ∀ i, i < h.ground.length → 0 ≤ ata a i) : ∀ (m : Nat) {c t : List Int}, SInv h a c t → smeas h a t ≤ m → ∃ c t, SInv h a c t ∧ calmB h c
  | m, c, t, I, hm => by
    by_cases hc : calmB h c
    · exact ⟨c, t, I, hc⟩
    · simp only [calmB, Classical.not_forall] at hc
      obtain ⟨i, hi, hlt⟩ := hc
      have hk : (1 : Int) * h.sp.lim i ≤ ata c i := by omega
      have h2 := smeas_lt v I h0 hi (Int.le_refl _) hk
      match m with
      | 0 => omega
      | m + 1 => exact stl_ex v h0 m (I.step v hi (by omega) hk) (by omega)
open Classical in
noncomputable def stlT (h : Hp) (a : List Int) : List Int := if e : ∃ t : List Int, t.length = h.ground.length ∧ h.sp.Stl (ata a) (ata t) then e.choose else []
noncomputable def stl (h : Hp) (a : List Int) : List Int := (List.range h.ground.length).map (h.sp.lft (ata a) (ata (stlT h a)))
theorem SInv.done {h : Hp} {a c t : List Int} (I : SInv h a c t) (hc : calmB h c) : stl h a = c ∧ stlT h a = t := by
  have ht : stlT h a = t := by
    have e : ∃ t : List Int, t.length = h.ground.length ∧ h.sp.Stl (ata a) (ata t) := ⟨t, I.lt, I.isStl hc⟩
    have hd : stlT h a = e.choose := by unfold stlT; rw [dif_pos e]
    rw [hd]
    exact ata_ext e.choose_spec.1 I.lt fun i hi => stl_unique e.choose_spec.2 (I.isStl hc) i hi
  refine ⟨?_, ht⟩
  unfold stl
  rw [ht]
  exact (list_ext I.lc I.eq).symm
structure Hpg (h : Hp) (a : List Int) : Prop where
  len : a.length = h.ground.length
  nn : ∀ i, i < h.ground.length → 0 ≤ ata a i
theorem stl_spec {h : Hp} (v : VH h) {a : List Int} (ha : Hpg h a) : SInv h a (stl h a) (stlT h a) ∧ calmB h (stl h a) := by
  obtain ⟨c, t, I, hc⟩ := stl_ex v ha.nn _ (SInv.start ha.len ha.nn) (Nat.le_refl _)
  obtain ⟨e1, e2⟩ := I.done hc
  rw [e1, e2]
  exact ⟨I, hc⟩
def addL (h : Hp) (a b : List Int) : List Int := (List.range h.ground.length).map fun i => ata a i + ata b i
theorem addL_at {h : Hp} {a b : List Int} {i : Nat} (hi : i < h.ground.length) : ata (addL h a b) i = ata a i + ata b i := ata_mk hi
theorem addL_hpg {h : Hp} {a b : List Int} (ha : Hpg h a) (hb : Hpg h b) : Hpg h (addL h a b) := ⟨by simp [addL], fun i hi => by rw [addL_at hi]; have := ha.nn i hi; have := hb.nn i hi; omega⟩
end Go.Ab.Heap
namespace Go.Ab.Heap
abbrev Mat := Nat → Nat → Int
def elim (M : Mat) : Mat := fun i j => M 0 0 * M (i + 1) (j + 1) - M 0 (j + 1) * M (i + 1) 0
def Piv : Nat → Mat → Prop
  | 0, _ => True
  | n + 1, M => M 0 0 ≠ 0 ∧ Piv n (elim M)
inductive MReach (n : Nat) (M : Mat) : Nat → Prop
  | ground {i : Nat} : i < n → 0 < sm (M i) n → MReach n M i
  | link {i k : Nat} : i < n → k < n → i ≠ k → MReach n M k → M i k < 0 → MReach n M i
structure KM (n : Nat) (M : Mat) : Prop where
  off : ∀ i j, i < n → j < n → i ≠ j → M i j ≤ 0
  row : ∀ i, i < n → 0 ≤ sm (M i) n
  re : ∀ i, i < n → MReach n M i
theorem Piv.le : ∀ {n m : Nat} {M : Mat}, Piv n M → m ≤ n → Piv m M
  | _, 0, _, _, _ => trivial
  | 0, m + 1, _, _, h => by omega
  | n + 1, m + 1, _, hp, h => ⟨hp.1, hp.2.le (by omega)⟩
theorem mul_abs {a b A B : Int} (h1 : -A ≤ a) (h2 : a ≤ A) (h3 : -B ≤ b) (h4 : b ≤ B) : -(A * B) ≤ a * b ∧ a * b ≤ A * B := by
  have p1 : 0 ≤ (A - a) * (B - b) := Int.mul_nonneg (by omega) (by omega)
  have p2 : 0 ≤ (A + a) * (B + b) := Int.mul_nonneg (by omega) (by omega)
  have p3 : 0 ≤ (A - a) * (B + b) := Int.mul_nonneg (by omega) (by omega)
  have p4 : 0 ≤ (A + a) * (B - b) := Int.mul_nonneg (by omega) (by omega)
  simp only [Int.sub_mul, Int.mul_sub, Int.add_mul, Int.mul_add] at p1 p2 p3 p4
  omega
end Go.Ab.Heap
set_option linter.all false
namespace Go.Ab.Heap
open Go Go.Ab
abbrev dHp (h : Hp) : DV := .agg [.list (h.links.map ints), ints h.ground]
theorem data_cells {ok : Nat → Prop} {okd : DV → Prop} {M : Nat → Nat × Option Blk} {t g n : Nat} {blk : Blk} {l : List DV} (hM : M t = (g, some blk)) (hst : ok blk.st) (hl : l.length = n) (he : ∀ d ∈ l, d.cells.length = blk.esz)
    (hc : ArgsSV (Data ok okd M) blk.cells (flat l)) : Data ok okd M (.sl t g 0 n) (.list l) := by
  have hlen := argsSV_len hc
  refine .sl t g 0 n blk l (fun j => blk.cells.getD j .dead) hM hst hl he (fun j c hj => ?_) fun j c hj => ?_
  · have hj2 : j < blk.cells.length := by rw [hlen]; exact (List.getElem?_eq_some_iff.1 hj).1
    simp [hj2]
  · have hj2 : j < blk.cells.length := by rw [hlen]; exact (List.getElem?_eq_some_iff.1 hj).1
    exact argsSV_get hc j _ c (by simp [hj2]) hj
theorem end_cell {P : Program} {okd : DV → Prop} {S : St} {x : Exit} {t : Nat} {ty : TypeId} {s1 : SV} {d : DV} (he : x = .normal ∨ x = .ret) (hs : loadSV P ty (S.look (.tmp t)) = some s1) (h1 : Data (fun _ => True) okd S.M s1 d) : EndK P okd [.cell t ty] (.one (.dv d)) x S := by
  refine ⟨he, [s1], [.dv d], by simp [resSV, hs], ⟨h1, trivial⟩, .inl fun r hr => ⟨d, by simpa using hr⟩, rfl⟩
theorem data_bools {ok : Nat → Prop} {okd : DV → Prop} {M : Nat → Nat × Option Blk} {t g n : Nat} {e : TypeId} {L : List Bool} (hM : M t = (g, some (rowT e L))) (hst : ok 0) (hl : L.length = n) (hd : ∀ q, okd (.bool q)) : Data ok okd M (.sl t g 0 n) (.list (L.map DV.bool)) := by
  have hf : flat (L.map DV.bool) = L.map DV.bool := flat_one fun _ => rfl
  refine data_row hM hst (by simpa using hl) (fun d hd' => ?_) ?_ fun c hc' => ?_
  · obtain ⟨q, _, rfl⟩ := List.mem_map.1 hd'; rfl
  · rw [hf]; simp
  · rw [hf] at hc'; obtain ⟨q, _, rfl⟩ := List.mem_map.1 hc'; exact hd q
def longB (h : Hp) (l : List (List Int)) : Bool := l.any (fun r => decide (400 < r.length)) || h.links.any (fun r => decide (50 < r.length)) || decide (50 < h.links.length) || decide (50 < h.ground.length)
end Go.Ab.Heap
