/- Ab4, Ab5, Ab6. -/
import Derived.Test.YtjlfgobbieljoaaDoorBogG01
set_option linter.all false
namespace Go.Ab
open Go.RowKit
inductive Data (ok : Nat → Prop) (okd : DV → Prop) (M : Nat → Nat × Option Blk) : SV → DV → Prop
  | dv (d : DV) : okd d → Data ok okd M (.dv d) d
  | nils : Data ok okd M .nils (.list [])
  | emp (b : Bool) : Data ok okd M (.emp b) (.list [])
  | sl (t g off n : Nat) (blk : Blk) (l : List DV) (s : Nat → SV) : M t = (g, some blk) → ok blk.st → l.length = n → (∀ d ∈ l, d.cells.length = blk.esz) →
      (∀ j c, (flat l)[j]? = some c → blk.cells[off * blk.esz + j]? = some (s j)) → (∀ j c, (flat l)[j]? = some c → Data ok okd M (s j) c) → Data ok okd M (.sl t g off n) (.list l)
  | pt (t g off : Nat) (blk : Blk) (cs : List DV) (s : Nat → SV) : M t = (g, some blk) → ok blk.st →
      (∀ j c, cs[j]? = some c → blk.cells[off + j]? = some (s j)) → (∀ j c, cs[j]? = some c → Data ok okd M (s j) c) → Data ok okd M (.pt t g off) (.cptr cs)
  | agg (ss : List SV) (ds : List DV) : ss.length = ds.length → (∀ (j : Nat) s c, ss[j]? = some s → ds[j]? = some c → Data ok okd M s c) → Data ok okd M (.agg ss) (.agg ds)
inductive Scalar : DV → Prop
  | bool (b : Bool) : Scalar (.bool b)
  | int (k : IntKind) (n : Int) : Scalar (.int k n)
  | str (s : ByteArray) : Scalar (.str s)
  | nilptr : Scalar .nilptr
  | nilfn : Scalar .nilfn
  | nilIface : Scalar .nilIface
  | iface (t : TypeId) (d : DV) : Scalar d → Scalar (.iface t d)
  | agg (cs : List DV) : (∀ c ∈ cs, Scalar c) → Scalar (.agg cs)
  | fn (f : FuncId) (pre caps : List DV) : (∀ c ∈ pre, Scalar c) → (∀ c ∈ caps, Scalar c) → Scalar (.fn f pre caps)
theorem Scalar.rep {w w' : World} {X X' : Nat → Prop} {d : DV} {v : Value} (h : Scalar d) (hr : RepD w X d v) : RepD w' X' d v := by
  induction h generalizing v with
  | bool b => cases hr; exact .bool b
  | int k n => cases hr; exact .int k n
  | str s => cases hr; exact .str s
  | nilptr => cases hr; exact .nilptr
  | nilfn => cases hr; exact .nilfn
  | nilIface => cases hr; exact .nilIface
  | iface t d _ ih => cases hr with | iface _ _ v' h' => exact .iface t d v' (ih h')
  | agg cs _ ih =>
    cases hr with
    | agg _ vs hsz hc => exact .agg cs vs hsz fun j c hj => ih c (List.mem_of_getElem? hj) (hc j c hj)
  | fn f pre caps _ _ ih1 ih2 =>
    cases hr with
    | fn _ _ _ vp vc h1 h2 h3 h4 => exact .fn f pre caps vp vc h1 h2 (fun j c hj => ih1 c (List.mem_of_getElem? hj) (h3 j c hj)) fun j c hj => ih2 c (List.mem_of_getElem? hj) (h4 j c hj)
theorem svreps_arr {w : World} {M : Nat → Nat × Option Blk} {μ : Nat → Option (Nat × Nat)} {X : Nat → Prop} {cs : List SV} {vs : List Value} (h : SVReps w M μ X cs vs) :
    vs.length = cs.length ∧ ∀ (j : Nat) c, cs[j]? = some c → SVRep w M μ X c (vs.toArray.getD j undef) := by
  refine ⟨h.length, fun j c hc => ?_⟩
  have hj : j < vs.length := by have := h.length; have := (List.getElem?_eq_some_iff.1 hc).1; omega
  have : vs.toArray.getD j undef = vs[j] := by simp [Array.getD, hj]
  rw [this]
  exact h.get j c _ hc (by simp [hj])
theorem Data.rep {cx : Cx} {S : St} {a : Act} {w : World} {μ : Nat → Option (Nat × Nat)} (h : SimU cx S a w μ) {ok : Nat → Prop} {okd : DV → Prop} {Y : Nat → Prop}
    (hY : ∀ t g blk b cap, S.M t = (g, some blk) → ok blk.st → μ t = some (b, cap) → ¬ Y b)
    (hd : ∀ d v, okd d → RepD w (XX cx S.M μ) d v → RepD w Y d v) {s : SV} {d : DV} (hD : Data ok okd S.M s d) : ∀ v, SVRep w S.M μ (XX cx S.M μ) s v → RepD w Y d v := by
  induction hD with
  | dv d hok => intro v hv; simp only [SVRep] at hv; exact hd d v hok hv
  | nils => intro v hv; simp only [SVRep] at hv; subst hv; exact .listNil _ _
  | emp b => intro v hv; simp only [SVRep] at hv; obtain ⟨a, cap, rfl, _⟩ := hv; exact .listNil _ _
  | sl t g off n blk l s e hst hn he hc _ ih =>
    intro v hv
    simp only [SVRep] at hv
    have hv := hv.2 blk e
    have hb := h.blk t g blk e
    unfold BlkRep at hb
    cases hm : μ t with
    | none =>
      rw [hm] at hv
      simp only at hv
      obtain ⟨rfl, rfl, rfl⟩ := hv
      have : l = [] := List.eq_nil_of_length_eq_zero hn
      subst this
      exact .listNil _ _
    | some p =>
      obtain ⟨b, cap⟩ := p
      rw [hm] at hv hb
      simp only at hv hb
      obtain ⟨rfl, hcap⟩ := hv
      obtain ⟨cur, q1, q2, q3, _, _⟩ := hb
      subst hn
      have hx : ∀ j c, (flat l)[j]? = some c → ∃ u, cur[off * blk.esz + j]? = some u := fun j c hj => by
        have h1 := hc j c hj
        have h2 := (List.getElem?_eq_some_iff.1 h1).1
        have h3 : off * blk.esz + j < cur.size := by omega
        exact ⟨cur[off * blk.esz + j], by simp [h3]⟩
      refine .list l b (off * blk.esz) (cap - off) blk.esz (fun j => cur.getD (off * blk.esz + j) undef) (hY t g blk b cap e hst hm) (h.place t g blk b cap e hm).2 (by omega) he ?_ ?_
      · intro j c hj
        obtain ⟨u, hu⟩ := hx j c hj
        simp [World.cell?, q1, hu]
      · intro j c hj
        obtain ⟨u, hu⟩ := hx j c hj
        have hg : cur.getD (off * blk.esz + j) undef = u := by simp [hu]
        rw [hg]
        exact ih j c hj u (q3 _ _ u (hc j c hj) hu)
  | pt t g off blk cs s e hst hc _ ih =>
    intro v hv
    simp only [SVRep] at hv
    obtain ⟨b, cap, hm, rfl⟩ := hv.2 blk e
    have hb := h.blk t g blk e
    unfold BlkRep at hb
    rw [hm] at hb
    simp only at hb
    obtain ⟨cur, q1, q2, q3, _, _⟩ := hb
    have hx : ∀ j c, cs[j]? = some c → ∃ u, cur[off + j]? = some u := fun j c hj => by
      have h1 := hc j c hj
      have h2 := (List.getElem?_eq_some_iff.1 h1).1
      have h3 : off + j < cur.size := by omega
      exact ⟨cur[off + j], by simp [h3]⟩
    refine .cptr cs b off (fun j => cur.getD (off + j) undef) (hY t g blk b cap e hst hm) (h.place t g blk b cap e hm).2 ?_ ?_
    · intro j c hj
      obtain ⟨u, hu⟩ := hx j c hj
      simp [World.cell?, q1, hu]
    · intro j c hj
      obtain ⟨u, hu⟩ := hx j c hj
      have hg : cur.getD (off + j) undef = u := by simp [hu]
      rw [hg]
      exact ih j c hj u (q3 _ _ u (hc j c hj) hu)
  | agg ss ds hl _ ih =>
    intro v hv
    simp only [SVRep] at hv
    obtain ⟨vs, rfl, hvs⟩ := hv
    obtain ⟨h1, h2⟩ := svreps_arr hvs
    refine .agg ds vs.toArray (by simp; omega) fun j c hj => ?_
    have hj' : j < ss.length := by have := (List.getElem?_eq_some_iff.1 hj).1; omega
    exact ih j ss[j] c (by simp [hj']) hj _ (h2 j _ (by simp [hj']))
abbrev Borrow := Data (fun _ => True) (fun _ => True)
abbrev Lasting := Data (fun st => st = 1) (fun _ => True)
abbrev Fresh := Data (fun _ => True) Scalar
theorem Borrow.rep {cx : Cx} {S : St} {a : Act} {w : World} {μ : Nat → Option (Nat × Nat)} (h : SimU cx S a w μ) {s : SV} {d : DV} (hD : Borrow S.M s d) {v : Value}
    (hv : SVRep w S.M μ (XX cx S.M μ) s v) : RepD w (fun _ => False) d v :=
  Data.rep h (Y := fun _ => False) (fun _ _ _ _ _ _ _ _ h => h) (fun _ _ _ hr => hr.weaken (fun _ h => h.elim)) hD v hv
theorem Lasting.rep {cx : Cx} (hg : cx.Good) {S : St} {a : Act} {w : World} {μ : Nat → Option (Nat × Nat)} (h : SimU cx S a w μ) {s : SV} {d : DV} (hD : Lasting S.M s d) {v : Value}
    (hv : SVRep w S.M μ (XX cx S.M μ) s v) : RepD w (XX cx S.M μ) d v :=
  Data.rep h (Y := XX cx S.M μ) (fun t g blk b cap e hst hm hx => by
    rcases hx with ⟨t', g', blk', cap', e', hst', hm'⟩ | hx
    · have hne : t' ≠ t := fun ht => by subst ht; rw [e] at e'; simp only [Prod.mk.injEq, Option.some.injEq] at e'; obtain ⟨_, rfl⟩ := e'; unfold OwS at hst'; omega
      have := (h.uniq t' g' blk' t g blk b cap' cap hne e' e hst' hm' hm).1
      omega
    · have := (h.place t g blk b cap e hm).1
      have h0 := hg.1 b hx
      rcases this with h1 | h1
      · omega
      · exact h0.2 h1) (fun _ _ _ hr => hr) hD v hv
theorem Fresh.rep {cx : Cx} {S : St} {a : Act} {w : World} {μ : Nat → Option (Nat × Nat)} (h : SimU cx S a w μ) (hW : ∀ b, ¬ cx.Wr b) {s : SV} {d : DV} (hD : Fresh S.M s d) {v : Value}
    (hv : SVRep w S.M μ (XX cx S.M μ) s v) : RepD w (fun b => b < cx.w0.heap.size) d v :=
  Data.rep h (Y := fun b => b < cx.w0.heap.size) (fun t g blk b cap e _ hm hx => by
    rcases (h.place t g blk b cap e hm).1 with h1 | h1
    · omega
    · exact hW b h1) (fun _ _ hs hr => hs.rep hr) hD v hv
theorem SimU.virt {cx : Cx} {S : St} {a : Act} {w : World} {μ : Nat → Option (Nat × Nat)} (h : SimU cx S a w μ) (t esz : Nat) (elem : TypeId) :
    SimU cx { S with M := upd S.M t ((S.M t).1 + 1, some ⟨[], esz, elem, 0, true⟩) } a w (upd μ t none) := by
  have hown : ∀ b, Own (upd S.M t ((S.M t).1 + 1, some ⟨[], esz, elem, 0, true⟩)) (upd μ t none) b → Own S.M μ b := by
    rintro b ⟨t', g', blk', cap', e1, e2, e3⟩
    by_cases ht : t' = t
    · subst ht; rw [upd_same] at e3; cases e3
    · rw [upd_ne _ _ _ _ ht] at e1 e3; exact ⟨t', g', blk', cap', e1, e2, e3⟩
  have hk : ∀ b, b < w.heap.size → ¬ XX cx S.M μ b → w.heap[b]? = w.heap[b]? ∧ ¬ XX cx (upd S.M t ((S.M t).1 + 1, some ⟨[], esz, elem, 0, true⟩)) (upd μ t none) b :=
    fun b _ hx => ⟨rfl, fun ho => hx (ho.imp (hown b) id)⟩
  have hM : ∀ t', (S.M t').1 ≤ (upd S.M t ((S.M t).1 + 1, some ⟨[], esz, elem, 0, true⟩) t').1 := fun t' => by
    by_cases ht : t' = t
    · subst ht; rw [upd_same]; exact Nat.le_succ _
    · rw [upd_ne _ _ _ _ ht]; exact Nat.le_refl _
  have hB : ∀ t' g blk', upd S.M t ((S.M t).1 + 1, some ⟨[], esz, elem, 0, true⟩) t' = (g, some blk') → g ≤ (S.M t').1 →
      ∃ blk, S.M t' = (g, some blk) ∧ upd μ t none t' = μ t' ∧ blk'.esz = blk.esz := fun t' g blk' e hg => by
    by_cases ht : t' = t
    · subst ht; rw [upd_same] at e; simp at e; omega
    · rw [upd_ne _ _ _ _ ht] at e ⊢; exact ⟨blk', e, rfl, rfl⟩
  refine { blk := ?_, slot := ?_, place := ?_, uniq := ?_, anc := ?anc, below := h.below, size := h.size, defers := h.defers }
  case anc =>
    intro t' g' blk' e h3
    by_cases ht : t' = t
    · subst ht
      simp only [upd_same, Prod.mk.injEq, Option.some.injEq] at e
      obtain ⟨_, rfl⟩ := e
      simp at h3
    · rw [upd_ne _ _ _ _ ht]
      simp only [upd_ne _ _ _ _ ht] at e
      exact h.anc t' g' blk' e h3
  · intro t' g blk' e
    by_cases ht : t' = t
    · subst ht
      simp only [upd_same, Prod.mk.injEq, Option.some.injEq] at e
      obtain ⟨_, rfl⟩ := e
      unfold BlkRep
      rw [upd_same]
      exact ⟨rfl, rfl⟩
    · simp only [upd_ne _ _ _ _ ht] at e
      exact (h.blk t' g blk' e).mono (st := blk'.st) (Nat.le_refl _) hk hM hB (upd_ne _ _ _ _ ht) (fun _ _ _ => rfl)
  · exact fun i => SVRep.mono (Nat.le_refl _) hk hM hB _ _ (h.slot i)
  · intro t' g blk' b cap' e hm
    by_cases ht : t' = t
    · subst ht; rw [upd_same] at hm; cases hm
    · simp only [upd_ne _ _ _ _ ht] at e hm; exact h.place _ _ _ _ _ e hm
  · intro t1 g1 b1 t2 g2 b2 b c1 c2 hne e1 e2 s1 m1 m2
    by_cases h1 : t1 = t
    · subst h1; rw [upd_same] at m1; cases m1
    · by_cases h2 : t2 = t
      · subst h2; rw [upd_same] at m2; cases m2
      · simp only [upd_ne _ _ _ _ h1] at e1 m1
        simp only [upd_ne _ _ _ _ h2] at e2 m2
        exact h.uniq t1 g1 b1 t2 g2 b2 b c1 c2 hne e1 e2 s1 m1 m2
end Go.Ab
namespace Go.Ab
open Go.RowKit
def szP (P : Program) (t : TypeId) : Option Nat := (P.info? t).map (·.size)
def bytesP (P : Program) (t : TypeId) : Option Nat := (P.info? t).map (·.bytes)
def aggP (P : Program) (t : TypeId) : Option Bool := (P.underlying t).map fun | .struct _ | .array _ _ => true | _ => false
def elemP (P : Program) (t : TypeId) : Option TypeId := match P.underlying t with | some (.slice e) => some e | _ => none
def kindP (P : Program) (t : TypeId) : Option IntKind := match P.underlying t with | some (.int k) => some k | _ => none
def fieldP (P : Program) (s : TypeId) (f : Nat) : Option Nat :=
  match P.underlying s with
  | some (.struct fs) => match fs[f]? with
    | some fl => match szP P fl.type with
      | some (_ + 1) => some fl.offset
      | _ => none
    | none => none
  | _ => none
def svOfCell : Value → SV
  | .bool b => .dv (.bool b)
  | .int k n => .dv (.int k n)
  | .string s => .dv (.str s)
  | .slice none 0 0 => .nils
  | .pointer none => .dv .nilptr
  | .nilFunc => .dv .nilfn
  | .nilIface => .dv .nilIface
  | _ => .dead
def svOf : Value → SV
  | .agg cs => .agg (cs.toList.map svOfCell)
  | v => svOfCell v
def zeroP (P : Program) (t : TypeId) : Option (List SV) := match P.info? t with | some i => i.zero.map fun z => z.cells.toList.map svOfCell | none => none
section
variable {w : World} {M : Nat → Nat × Option Blk} {μ : Nat → Option (Nat × Nat)} {X : Nat → Prop}
theorem svOfCell_rep (v : Value) : SVRep w M μ X (svOfCell v) v := by
  unfold svOfCell
  split <;> simp only [SVRep]
  · exact .bool _
  · exact .int _ _
  · exact .str _
  · exact .nilptr
  · exact .nilfn
  · exact .nilIface
theorem svreps_map (l : List Value) : SVReps w M μ X (l.map svOfCell) l := by
  induction l with
  | nil => trivial
  | cons a l ih => simp only [List.map_cons, SVReps]; exact ⟨svOfCell_rep a, ih⟩
theorem svOf_rep (v : Value) : SVRep w M μ X (svOf v) v := by
  unfold svOf
  split
  · rename_i cs
    simp only [SVRep]
    exact ⟨cs.toList, by simp, svreps_map _⟩
  · exact svOfCell_rep v
end
def St.ev (S : St) : Operand → SV
  | .tmp t => S.F t
  | .const v => svOf v
  | .func f => .dv (.fn f [] [])
  | .global _ => .dead
theorem SimU.ev {cx : Cx} {S : St} {a : Act} {w : World} {μ : Nat → Option (Nat × Nat)} (h : SimU cx S a w μ) (x : Operand) :
    SVRep w S.M μ (XX cx S.M μ) (S.ev x) (a.eval x) := by
  cases x with
  | tmp t => exact h.slot t
  | const v => exact svOf_rep v
  | func f => simp only [St.ev, SVRep, Act.eval]; exact .fn f [] [] #[] #[] rfl rfl (fun j c hj => by simp at hj) (fun j c hj => by simp at hj)
  | global g => trivial
def blkOf (M : Nat → Nat × Option Blk) : SV → Option Blk
  | .sl t g _ _ => if (M t).1 = g then (M t).2 else none
  | .pt t g _ => if (M t).1 = g then (M t).2 else none
  | _ => none
theorem blkOf_sl {M : Nat → Nat × Option Blk} {t g off n : Nat} {blk : Blk} (h : blkOf M (.sl t g off n) = some blk) : M t = (g, some blk) := by
  simp only [blkOf] at h
  split at h
  · rename_i e; rw [← e, ← h]
  · cases h
theorem blkOf_pt {M : Nat → Nat × Option Blk} {t g off : Nat} {blk : Blk} (h : blkOf M (.pt t g off) = some blk) : M t = (g, some blk) := by
  simp only [blkOf] at h
  split at h
  · rename_i e; rw [← e, ← h]
  · cases h
abbrev Lk := Operand → SV × Option Blk
def St.look (S : St) : Lk := fun x => (S.ev x, blkOf S.M (S.ev x))
def cellsSV : SV → Option (List SV)
  | .dv (.agg ds) => some (ds.map .dv)
  | .dv d => some [.dv d]
  | .nils => some [.nils]
  | .emp b => some [.emp b]
  | .sl t g o n => some [.sl t g o n]
  | .pt t g o => some [.pt t g o]
  | .agg cs => some cs
  | _ => none
def cellOk : SV → Bool
  | .dv (.agg _) => false
  | .dv _ => true
  | .nils => true
  | .emp _ => true
  | .sl .. => true
  | .pt .. => true
  | _ => false
theorem repD_cell {w : World} {X : Nat → Prop} {d : DV} {v : Value} (h : RepD w X d v) (hd : ∀ cs, d ≠ .agg cs) : v.cells = #[v] ∧ v.oneCell' = true := by
  cases h <;> first | exact ⟨rfl, rfl⟩ | exact absurd rfl (hd _)
theorem cellOk_rep {w : World} {M : Nat → Nat × Option Blk} {μ : Nat → Option (Nat × Nat)} {X : Nat → Prop} {c : SV} {v : Value} (hc : cellOk c = true) (h : SVRep w M μ X c v) : v.oneCell' = true := by
  cases c with
  | dead => simp [cellOk] at hc
  | dv d =>
    simp only [SVRep] at h
    refine (repD_cell h fun cs e => ?_).2
    subst e
    simp [cellOk] at hc
  | nils => simp only [SVRep] at h; subst h; rfl
  | emp b => simp only [SVRep] at h; obtain ⟨a, cap, rfl, _⟩ := h; rfl
  | sl t g o n => simp only [SVRep] at h; exact h.1.1
  | pt t g o => simp only [SVRep] at h; exact h.1.1
  | agg cs => simp [cellOk] at hc
  | tup cs => simp [cellOk] at hc
  | val u => simp [cellOk] at hc
theorem cells_of_one {v : Value} (h : v.oneCell' = true) : v.cells = #[v] := by
  cases v <;> first | rfl | simp [Value.oneCell'] at h
theorem cellsSV_rep {w : World} {M : Nat → Nat × Option Blk} {μ : Nat → Option (Nat × Nat)} {X : Nat → Prop} {s : SV} {cs : List SV} {v : Value} (hc : cellsSV s = some cs) (h : SVRep w M μ X s v) :
    SVReps w M μ X cs v.cells.toList := by
  cases s with
  | dead => simp [cellsSV] at hc
  | dv d =>
    simp only [SVRep] at h
    cases d with
    | agg ds =>
      simp only [cellsSV, Option.some.injEq] at hc
      subst hc
      cases h with
      | agg _ vs hsz hh =>
        refine SVReps.mk (by simpa [Value.cells] using hsz) fun j c u hj hu => ?_
        simp only [List.getElem?_map, Option.map_eq_some_iff] at hj
        obtain ⟨d, hd, rfl⟩ := hj
        have := hh j d hd
        simp only [Value.cells, Array.getElem?_toList] at hu
        simp only [SVRep]
        simpa [hu] using this
    | _ =>
      simp only [cellsSV, Option.some.injEq] at hc
      subst hc
      rw [(repD_cell h (by simp)).1]
      exact ⟨by simpa only [SVRep] using h, trivial⟩
  | nils =>
    simp only [cellsSV, Option.some.injEq] at hc
    subst hc
    simp only [SVRep] at h
    subst h
    exact ⟨rfl, trivial⟩
  | emp b =>
    simp only [cellsSV, Option.some.injEq] at hc
    subst hc
    have h' := h
    simp only [SVRep] at h'
    obtain ⟨a, cap, rfl, _⟩ := h'
    exact ⟨h, trivial⟩
  | sl t g o n =>
    simp only [cellsSV, Option.some.injEq] at hc
    subst hc
    rw [cells_of_one (by simp only [SVRep] at h; exact h.1.1)]
    exact ⟨h, trivial⟩
  | pt t g o =>
    simp only [cellsSV, Option.some.injEq] at hc
    subst hc
    rw [cells_of_one (by simp only [SVRep] at h; exact h.1.1)]
    exact ⟨h, trivial⟩
  | agg cs' =>
    simp only [cellsSV, Option.some.injEq] at hc
    subst hc
    simp only [SVRep] at h
    obtain ⟨vs, rfl, hv⟩ := h
    simpa [Value.cells] using hv
  | tup cs' => simp [cellsSV] at hc
  | val u => simp [cellsSV] at hc
def allDv : List SV → Option (List DV)
  | [] => some []
  | .dv d :: r => match allDv r with | some l => some (d :: l) | none => none
  | _ :: _ => none
def aggSV (cs : List SV) : SV := match allDv cs with | some ds => .dv (.agg ds) | none => .agg cs
theorem allDv_map : ∀ (cs : List SV) (ds : List DV), allDv cs = some ds → cs = ds.map .dv
  | [], ds, h => by simp [allDv] at h; subst h; rfl
  | .dv d :: r, ds, h => by
    simp only [allDv] at h
    split at h
    · rename_i l hl
      simp only [Option.some.injEq] at h
      subst h
      rw [allDv_map r l hl]
      rfl
    · cases h
  | .dead :: _, _, h | .nils :: _, _, h | .emp _ :: _, _, h | .sl .. :: _, _, h | .pt .. :: _, _, h | .agg _ :: _, _, h | .tup _ :: _, _, h | .val _ :: _, _, h => by simp [allDv] at h
theorem aggSV_rep {w : World} {M : Nat → Nat × Option Blk} {μ : Nat → Option (Nat × Nat)} {X : Nat → Prop} {cs : List SV} {vs : List Value} (h : SVReps w M μ X cs vs) : SVRep w M μ X (aggSV cs) (.agg vs.toArray) := by
  unfold aggSV
  split
  · rename_i ds hd
    have e := allDv_map cs ds hd
    subst e
    simp only [SVRep]
    obtain ⟨h1, h2⟩ := svreps_arr h
    refine .agg ds vs.toArray (by simpa using h1) fun j c hj => ?_
    have := h2 j (.dv c) (by simp [hj])
    simpa only [SVRep] using this
  · simp only [SVRep]
    exact ⟨vs, rfl, h⟩
end Go.Ab
namespace Go.Ab
open Go.RowKit
inductive Out where
  | val (r : SV)
  | mk (blk : Blk) (n : Nat)
  | app (t : Option Nat) (blk : Blk) (n : Nat)
  | put (t : Nat) (blk : Blk)
def St.apply (n : Nat) (S : St) (dst : Option Nat) : Out → Option St
  | .val r => match dst with
    | some d => if d < n then some ⟨upd S.F d r, S.M⟩ else none
    | none => some S
  | .mk blk k => match dst with
    | some d => if d < n then some ⟨upd S.F d (if blk.row then .sl d ((S.M d).1 + 1) 0 k else .pt d ((S.M d).1 + 1) 0), upd S.M d ((S.M d).1 + 1, some blk)⟩ else none
    | none => none
  | .app t blk k => match dst with
    | some d => if d < n then
        match t with
        | none => some ⟨upd S.F d (.sl d ((S.M d).1 + 1) 0 k), upd S.M d ((S.M d).1 + 1, some blk)⟩
        | some t => match (S.M t).2 with
          | some b => if OwS b.st then some ⟨upd S.F d (.sl d ((S.M d).1 + 1) 0 k), upd (upd S.M t ((S.M t).1, some { b with st := 2 })) d ((S.M d).1 + 1, some blk)⟩ else none
          | none => none
      else none
    | none => none
  | .put t blk => match dst with
    | some _ => none
    | none => match (S.M t).2 with
      | some b => if OwS b.st then some ⟨S.F, upd (noViews S.M) t ((S.M t).1, some blk)⟩ else none
      | none => none
def Runs (cx : Cx) (S' : St) (o : Oper) (a : Act) (w : World) : Prop :=
  ∃ v w' μ', ((execOp a.eval o).run cx.P w = .ok (.value v) w' ∨ ((execOp a.eval o).run cx.P w = .ok .skip w' ∧ v = undef)) ∧ SimU cx S' (a.put o.dst v) w' μ'
theorem sim_val {cx : Cx} {S S' : St} {a : Act} {w : World} {μ : Nat → Option (Nat × Nat)} (h : SimU cx S a w μ) {dst : Option Nat} {r : SV} {v : Value}
    (hr : SVRep w S.M μ (XX cx S.M μ) r v) (ha : S.apply cx.n dst (.val r) = some S') : SimU cx S' (a.put dst v) w μ := by
  cases dst with
  | none => simp only [St.apply, Option.some.injEq] at ha; subst ha; exact h
  | some d =>
    simp only [St.apply] at ha
    split at ha
    · rename_i hd
      simp only [Option.some.injEq] at ha
      subst ha
      exact h.set hd hr
    · cases ha
theorem runs_val {cx : Cx} {S S' : St} {a : Act} {w : World} {μ : Nat → Option (Nat × Nat)} (h : SimU cx S a w μ) {o : Oper} {r : SV} {v : Value}
    (hrun : (execOp a.eval o).run cx.P w = .ok (.value v) w) (hr : SVRep w S.M μ (XX cx S.M μ) r v) (ha : S.apply cx.n o.dst (.val r) = some S') : Runs cx S' o a w :=
  ⟨v, w, μ, .inl hrun, sim_val h hr ha⟩
def pickSV (c : Bool) : SV → SV → SV
  | .dv (.bool x), .dv (.bool y) => .dv (.bool (bif c then x else y))
  | a, b => bif c then a else b
def intBin (op : BinOp) (k : IntKind) (a b : Int) : Option DV :=
  match op with
  | .add => some (.int k (k.wrap (a + b)))
  | .sub => some (.int k (k.wrap (a - b)))
  | .mul => some (.int k (k.wrap (a * b)))
  | .quo => if b = 0 then none else some (.int k (k.wrap (a.tdiv b)))
  | .rem => if b = 0 then none else some (.int k (a.tmod b))
  | .and => some (.int k (k.wrap (BitVec.ofInt k.bits a &&& BitVec.ofInt k.bits b).toNat))
  | .or => some (.int k (k.wrap (BitVec.ofInt k.bits a ||| BitVec.ofInt k.bits b).toNat))
  | .xor => some (.int k (k.wrap (BitVec.ofInt k.bits a ^^^ BitVec.ofInt k.bits b).toNat))
  | .andNot => some (.int k (k.wrap (BitVec.ofInt k.bits a &&& ~~~BitVec.ofInt k.bits b).toNat))
  | .eql => some (.bool (a == b))
  | .neq => some (.bool (a != b))
  | .lss => some (.bool (decide (a < b)))
  | .leq => some (.bool (decide (a ≤ b)))
  | .gtr => some (.bool (decide (b < a)))
  | .geq => some (.bool (decide (b ≤ a)))
  | _ => none
def shiftBin (op : BinOp) (k : IntKind) (a b : Int) : Option DV :=
  if b < 0 then none else
  match op with
  | .shl => some (.int k (k.wrap (a * 2 ^ (min b.toNat k.bits))))
  | .shr => some (.int k (a.fdiv (2 ^ (min b.toNat k.bits))))
  | _ => none
def strBin (op : BinOp) (x y : ByteArray) : Option DV :=
  match op with
  | .add => if ((x.size + y.size : Nat) : Int) > 9223372036854775807 then none else some (.str (x ++ y))
  | .eql => some (.bool (x.toList == y.toList))
  | .neq => some (.bool !(x.toList == y.toList))
  | _ => none
def isBoolP (P : Program) (t : TypeId) : Bool := match P.underlying t with | some .bool => true | _ => false
def isPtrP (P : Program) (t : TypeId) : Bool := match P.underlying t with | some (.pointer _) => true | _ => false
def isSliceP (P : Program) (t : TypeId) : Bool := match P.underlying t with | some (.slice _) => true | _ => false
def nilOf : SV → Option Bool
  | .nils => some true
  | .emp b => some b
  | .dv (.list l) => if l.isEmpty then none else some false
  | _ => none
def ptrNilOf : SV → Option Bool
  | .dv .nilptr => some true
  | .dv (.cptr _) => some false
  | _ => none
def nilCmp (op : BinOp) (b : Bool) : Option SV :=
  match op with
  | .eql => some (.dv (.bool b))
  | .neq => some (.dv (.bool !b))
  | _ => none
def binSV (P : Program) (op : BinOp) (t : TypeId) : SV → SV → Option SV
  | .dv (.int k a), .dv (.int k' b) =>
    match op with
    | .shl | .shr => (shiftBin op k a b).map .dv
    | _ => if k = k' then (intBin op k a b).map .dv else none
  | .dv (.bool a), .dv (.bool b) => if isBoolP P t then (match op with | .eql => some (.dv (.bool (a == b))) | .neq => some (.dv (.bool !(a == b))) | _ => none) else none
  | .dv (.str a), .dv (.str b) => (strBin op a b).map .dv
  | x, .nils => if isSliceP P t then (match nilOf x with | some b => nilCmp op b | none => none) else none
  | x, .dv .nilptr => if isPtrP P t then (match ptrNilOf x with | some b => nilCmp op b | none => none) else none
  | _, _ => none
theorem int_bin_run (P : Program) (op : BinOp) (t : TypeId) (x y : Operand) (k : IntKind) (a b : Int) (d : DV) (h : intBin op k a b = some d) (w : World) :
    ∃ v, (do eqGuard op t x y (.int k a) (.int k b); binOp op t (.int k a) (.int k b) : Sem Value).run P w = .ok v w ∧ ∀ X, RepD w X d v := by
  simp only [eqGuard_at_int, pure_bind]
  cases op <;> simp only [intBin] at h
  case add => cases h; exact ⟨_, by rw [binOp_add]; rfl, fun X => .int _ _⟩
  case sub => cases h; exact ⟨_, by rw [binOp_sub]; rfl, fun X => .int _ _⟩
  case mul => cases h; exact ⟨_, by rw [binOp_mul]; rfl, fun X => .int _ _⟩
  case quo =>
    split at h
    · cases h
    · rename_i hb; cases h; exact ⟨_, by rw [binOp_quo]; simp only [Op.intDiv, hb, if_false]; rfl, fun X => .int _ _⟩
  case rem =>
    split at h
    · cases h
    · rename_i hb; cases h; exact ⟨_, by rw [binOp_rem]; simp only [Op.intDiv, hb, if_false]; rfl, fun X => .int _ _⟩
  case and => cases h; exact ⟨_, by rw [binOp_and]; rfl, fun X => .int _ _⟩
  case or => cases h; exact ⟨_, by rw [binOp_or]; rfl, fun X => .int _ _⟩
  case xor => cases h; exact ⟨_, by rw [binOp_xor]; rfl, fun X => .int _ _⟩
  case andNot => cases h; exact ⟨_, by rw [binOp_andNot]; rfl, fun X => .int _ _⟩
  case eql => cases h; exact ⟨_, by rw [binOp_eql]; rfl, fun X => .bool _⟩
  case neq => cases h; exact ⟨_, by rw [binOp_neq]; rfl, fun X => .bool _⟩
  case lss => cases h; exact ⟨_, by rw [binOp_lss]; rfl, fun X => .bool _⟩
  case leq => cases h; exact ⟨_, by rw [binOp_leq]; rfl, fun X => .bool _⟩
  case gtr => cases h; exact ⟨_, by rw [binOp_gtr]; rfl, fun X => .bool _⟩
  case geq => cases h; exact ⟨_, by rw [binOp_geq]; rfl, fun X => .bool _⟩
  all_goals cases h
theorem shift_bin_run (P : Program) (op : BinOp) (t : TypeId) (x y : Operand) (k k' : IntKind) (a b : Int) (d : DV) (h : shiftBin op k a b = some d) (w : World) :
    ∃ v, (do eqGuard op t x y (.int k a) (.int k' b); binOp op t (.int k a) (.int k' b) : Sem Value).run P w = .ok v w ∧ ∀ X, RepD w X d v := by
  simp only [eqGuard_at_int, pure_bind]
  unfold shiftBin at h
  split at h
  · cases h
  · rename_i hb
    cases op <;> simp only at h
    case shl => cases h; exact ⟨_, by rw [binOp_shl]; simp only [Op.shift, hb, if_false]; rfl, fun X => .int _ _⟩
    case shr => cases h; exact ⟨_, by rw [binOp_shr]; simp only [Op.shift, hb, if_false]; rfl, fun X => .int _ _⟩
    all_goals cases h
theorem str_bin_run (P : Program) (op : BinOp) (t : TypeId) (x y : Operand) (a b : ByteArray) (d : DV) (h : strBin op a b = some d) (w : World) :
    ∃ v, (do eqGuard op t x y (.string a) (.string b); binOp op t (.string a) (.string b) : Sem Value).run P w = .ok v w ∧ ∀ X, RepD w X d v := by
  simp only [eqGuard_at_string, pure_bind]
  have e : binOp op t (.string a) (.string b) = Op.stringOp op a b := by cases op <;> rfl
  rw [e]
  cases op <;> simp only [strBin] at h
  case add =>
    split at h
    · cases h
    · rename_i hb; cases h; exact ⟨_, by simp only [Op.stringOp, IntKind.max_i64, hb, if_false]; rfl, fun X => .str _⟩
  case eql => cases h; exact ⟨_, rfl, fun X => .bool _⟩
  case neq => cases h; exact ⟨_, rfl, fun X => .bool _⟩
  all_goals cases h
theorem bool_bin_run (P : Program) (t : TypeId) (x y : Operand) (a b : Bool) (hP : isBoolP P t = true) (w : World) :
    (do eqGuard .eql t x y (.bool a) (.bool b); binOp .eql t (.bool a) (.bool b) : Sem Value).run P w = .ok (.bool (a == b)) w ∧
    (do eqGuard .neq t x y (.bool a) (.bool b); binOp .neq t (.bool a) (.bool b) : Sem Value).run P w = .ok (.bool !(a == b)) w := by
  have hu : P.underlying t = some .bool := by
    unfold isBoolP at hP
    split at hP
    · assumption
    · cases hP
  have he : (Op.equal t (.bool a) (.bool b)).run P w = .ok (a == b) w := by
    show (Op.equalIn (9999 + 1) t (.bool a) (.bool b)).run P w = _
    unfold Op.equalIn
    simp only [Sem.run_bind, run_underlying hu, Result.andThen_ok]
    rfl
  simp only [eqGuard_at_bool, pure_bind]
  constructor
  · show (do pure (.bool (← Op.equal t (.bool a) (.bool b))) : Sem Value).run P w = _
    simp only [Sem.run_bind, he, Result.andThen_ok, Sem.run_pure]
  · show (do pure (.bool (!(← Op.equal t (.bool a) (.bool b)))) : Sem Value).run P w = _
    simp only [Sem.run_bind, he, Result.andThen_ok, Sem.run_pure]
theorem nil_bin_run {P : Program} {t e : TypeId} (hu : P.underlying t = some (.slice e)) (x y : Operand) (a : Option Addr) (n cap : Nat) (w : World) :
    (do eqGuard .eql t x y (.slice a n cap) (.slice none 0 0); binOp .eql t (.slice a n cap) (.slice none 0 0) : Sem Value).run P w = .ok (.bool a.isNone) w ∧
    (do eqGuard .neq t x y (.slice a n cap) (.slice none 0 0); binOp .neq t (.slice a n cap) (.slice none 0 0) : Sem Value).run P w = .ok (.bool !a.isNone) w := by
  have he : (Op.equal t (.slice a n cap) (.slice none 0 0)).run P w = .ok a.isNone w := by
    show (Op.equalIn (9999 + 1) t (.slice a n cap) (.slice none 0 0)).run P w = _
    unfold Op.equalIn
    simp only [Sem.run_bind, run_underlying hu, Result.andThen_ok]
    cases a <;> rfl
  constructor
  · show (do pure (.bool (← Op.equal t (.slice a n cap) (.slice none 0 0))) : Sem Value).run P w = _
    simp only [Sem.run_bind, he, Result.andThen_ok, Sem.run_pure]
  · show (do pure (.bool (!(← Op.equal t (.slice a n cap) (.slice none 0 0)))) : Sem Value).run P w = _
    simp only [Sem.run_bind, he, Result.andThen_ok, Sem.run_pure]
theorem ptr_bin_run {P : Program} {t e : TypeId} (hu : P.underlying t = some (.pointer e)) (x y : Operand) (a : Option Addr) (w : World) :
    (do eqGuard .eql t x y (.pointer a) (.pointer none); binOp .eql t (.pointer a) (.pointer none) : Sem Value).run P w = .ok (.bool a.isNone) w ∧
    (do eqGuard .neq t x y (.pointer a) (.pointer none); binOp .neq t (.pointer a) (.pointer none) : Sem Value).run P w = .ok (.bool !a.isNone) w := by
  have he : (Op.equal t (.pointer a) (.pointer none)).run P w = .ok a.isNone w := by
    show (Op.equalIn (9999 + 1) t (.pointer a) (.pointer none)).run P w = _
    unfold Op.equalIn
    simp only [Sem.run_bind, run_underlying hu, Result.andThen_ok]
    cases a <;> rfl
  constructor
  · show (do pure (.bool (← Op.equal t (.pointer a) (.pointer none))) : Sem Value).run P w = _
    simp only [Sem.run_bind, he, Result.andThen_ok, Sem.run_pure]
  · show (do pure (.bool (!(← Op.equal t (.pointer a) (.pointer none)))) : Sem Value).run P w = _
    simp only [Sem.run_bind, he, Result.andThen_ok, Sem.run_pure]
theorem bin_runs {cx : Cx} {S S' : St} {a : Act} {w : World} {μ : Nat → Option (Nat × Nat)} (h : SimU cx S a w μ) {o : Oper} {op : BinOp} {t yt : TypeId} {x y : Operand} (ho : o.op = .binOp op t x y yt) {r : SV}
    (hr : binSV cx.P op t (S.ev x) (S.ev y) = some r) (ha : S.apply cx.n o.dst (.val r) = some S') : Runs cx S' o a w := by
  have hx := h.ev x
  have hy := h.ev y
  have fin : ∀ (v : Value) (d : DV), r = .dv d → (do eqGuard op t x y (a.eval x) (a.eval y); binOp op t (a.eval x) (a.eval y) : Sem Value).run cx.P w = .ok v w → (∀ X, RepD w X d v) → Runs cx S' o a w := fun v d e hv hd => by
    subst e
    refine runs_val h (v := v) ?_ (by simp only [SVRep]; exact hd _) ha
    unfold execOp
    simp only [ho, Sem.run_bind] at hv ⊢
    rw [hv]
    rfl
  unfold binSV at hr
  split at hr
  · rename_i k1 n1 k2 n2 e1 e2
    rw [e1] at hx
    rw [e2] at hy
    simp only [SVRep] at hx hy
    cases hx1 : a.eval x with
    | int k n =>
      cases hy1 : a.eval y with
      | int k' n' =>
        rw [hx1] at hx; rw [hy1] at hy
        cases hx; cases hy
        rw [hx1, hy1] at fin
        have shft : ∀ d, shiftBin op k1 n1 n2 = some d → r = .dv d → Runs cx S' o a w := fun d hd e => by
          obtain ⟨v, hv, hrep⟩ := shift_bin_run cx.P op t x y k1 k2 n1 n2 d hd w
          exact fin v d e hv hrep
        have ints : ∀ d, k1 = k2 → intBin op k1 n1 n2 = some d → r = .dv d → Runs cx S' o a w := fun d hk hd e => by
          subst hk
          obtain ⟨v, hv, hrep⟩ := int_bin_run cx.P op t x y k1 n1 n2 d hd w
          exact fin v d e hv hrep
        split at hr
        · obtain ⟨d, hd, e⟩ := Option.map_eq_some_iff.1 hr
          exact shft d hd e.symm
        · obtain ⟨d, hd, e⟩ := Option.map_eq_some_iff.1 hr
          exact shft d hd e.symm
        · split at hr
          · rename_i hk
            obtain ⟨d, hd, e⟩ := Option.map_eq_some_iff.1 hr
            exact ints d hk hd e.symm
          · cases hr
      | _ => rw [hy1] at hy; cases hy
    | _ => rw [hx1] at hx; cases hx
  · rename_i b1 b2 e1 e2
    rw [e1] at hx
    rw [e2] at hy
    simp only [SVRep] at hx hy
    generalize hx1 : a.eval x = vx at *
    generalize hy1 : a.eval y = vy at *
    cases hx; cases hy
    split at hr
    · rename_i hP
      have hb := bool_bin_run cx.P t x y b1 b2 hP w
      split at hr
      · simp only [Option.some.injEq] at hr
        exact fin _ _ hr.symm hb.1 (fun _ => .bool _)
      · simp only [Option.some.injEq] at hr
        exact fin _ _ hr.symm hb.2 (fun _ => .bool _)
      · cases hr
    · cases hr
  · rename_i s1 s2 e1 e2
    rw [e1] at hx
    rw [e2] at hy
    simp only [SVRep] at hx hy
    generalize hx1 : a.eval x = vx at *
    generalize hy1 : a.eval y = vy at *
    cases hx; cases hy
    obtain ⟨d, hd, e⟩ := Option.map_eq_some_iff.1 hr
    obtain ⟨v, hv, hrep⟩ := str_bin_run cx.P op t x y s1 s2 d hd w
    exact fin v d e.symm hv hrep
  · rename_i e2
    rw [e2] at hy
    simp only [SVRep] at hy
    split at hr
    · rename_i hs
      have hu : ∃ e, cx.P.underlying t = some (.slice e) := by
        unfold isSliceP at hs
        split at hs
        · exact ⟨_, by assumption⟩
        · cases hs
      obtain ⟨e, hu⟩ := hu
      split at hr
      · rename_i b hb
        have hxv : ∃ ad n cap, a.eval x = .slice ad n cap ∧ ad.isNone = b := by
          generalize S.ev x = sx at hb hx
          unfold nilOf at hb
          split at hb
          · simp only [Option.some.injEq] at hb; subst hb; simp only [SVRep] at hx; exact ⟨none, 0, 0, hx, rfl⟩
          · simp only [Option.some.injEq] at hb; subst hb; simp only [SVRep] at hx; obtain ⟨ad, cap, h1, h2⟩ := hx; exact ⟨ad, 0, cap, h1, h2⟩
          · rename_i l
            split at hb
            · cases hb
            · rename_i hl
              simp only [Option.some.injEq] at hb; subst hb
              simp only [SVRep] at hx
              generalize a.eval x = vx at hx
              cases hx with
              | listNil ad cap => simp at hl
              | list _ b off cap esz u h1 h2 h3 h4 h5 h6 => exact ⟨_, _, _, rfl, rfl⟩
          · cases hb
        obtain ⟨ad, n, cap, hv, rfl⟩ := hxv
        have := nil_bin_run hu x y ad n cap w
        unfold nilCmp at hr
        rw [hv, hy] at fin
        split at hr
        · simp only [Option.some.injEq] at hr; exact fin _ _ hr.symm this.1 fun _ => .bool _
        · simp only [Option.some.injEq] at hr; exact fin _ _ hr.symm this.2 fun _ => .bool _
        · cases hr
      · cases hr
    · cases hr
  · rename_i e2
    rw [e2] at hy
    simp only [SVRep] at hy
    have hyv : a.eval y = .pointer none := by
      generalize a.eval y = vy at hy
      cases hy
      rfl
    split at hr
    · rename_i hs
      have hu : ∃ e, cx.P.underlying t = some (.pointer e) := by
        unfold isPtrP at hs
        split at hs
        · exact ⟨_, by assumption⟩
        · cases hs
      obtain ⟨e, hu⟩ := hu
      split at hr
      · rename_i b hb
        have hxv : ∃ ad, a.eval x = .pointer ad ∧ ad.isNone = b := by
          generalize S.ev x = sx at hb hx
          unfold ptrNilOf at hb
          split at hb
          · simp only [Option.some.injEq] at hb; subst hb; simp only [SVRep] at hx
            generalize a.eval x = vx at hx
            cases hx
            exact ⟨none, rfl, rfl⟩
          · simp only [Option.some.injEq] at hb; subst hb; simp only [SVRep] at hx
            generalize a.eval x = vx at hx
            cases hx with
            | cptr _ b off u h1 h2 h3 h4 => exact ⟨_, rfl, rfl⟩
          · cases hb
        obtain ⟨ad, hv, rfl⟩ := hxv
        have := ptr_bin_run hu x y ad w
        unfold nilCmp at hr
        rw [hv, hyv] at fin
        split at hr
        · simp only [Option.some.injEq] at hr; exact fin _ _ hr.symm this.1 fun _ => .bool _
        · simp only [Option.some.injEq] at hr; exact fin _ _ hr.symm this.2 fun _ => .bool _
        · cases hr
      · cases hr
    · cases hr
  · cases hr
def unSV (op : UnOp) : SV → Option SV
  | .dv (.int k n) => match op with
    | .neg => some (.dv (.int k (k.wrap (0 - n))))
    | .xor => some (.dv (.int k (k.wrap (BitVec.ofInt k.bits (if k.signed then -1 else k.max) ^^^ BitVec.ofInt k.bits n).toNat)))
    | _ => none
  | .dv (.bool b) => match op with | .not => some (.dv (.bool !b)) | _ => none
  | _ => none
theorem un_runs {cx : Cx} {S S' : St} {a : Act} {w : World} {μ : Nat → Option (Nat × Nat)} (h : SimU cx S a w μ) {o : Oper} {op : UnOp} {t : TypeId} {x : Operand} (ho : o.op = .unOp op t x) {r : SV}
    (hr : unSV op (S.ev x) = some r) (ha : S.apply cx.n o.dst (.val r) = some S') : Runs cx S' o a w := by
  have hx := h.ev x
  have fin : ∀ (v : Value) (d : DV), r = .dv d → (Op.unary op (a.eval x)).run cx.P w = .ok v w → (∀ X, RepD w X d v) → Runs cx S' o a w := fun v d e hv hd => by
    subst e
    refine runs_val h (v := v) ?_ (by simp only [SVRep]; exact hd _) ha
    unfold execOp
    simp only [ho, Sem.run_bind, hv]
    rfl
  unfold unSV at hr
  split at hr
  · rename_i k n e1
    rw [e1] at hx
    simp only [SVRep] at hx
    generalize hx1 : a.eval x = vx at *
    cases hx
    split at hr <;> first | (cases hr; done) | skip
    · simp only [Option.some.injEq] at hr
      exact fin _ _ hr.symm rfl (fun _ => .int _ _)
    · simp only [Option.some.injEq] at hr
      exact fin _ _ hr.symm rfl (fun _ => .int _ _)
  · rename_i b e1
    rw [e1] at hx
    simp only [SVRep] at hx
    generalize hx1 : a.eval x = vx at *
    cases hx
    split at hr <;> first | (cases hr; done) | skip
    simp only [Option.some.injEq] at hr
    exact fin _ _ hr.symm rfl (fun _ => .bool _)
  · cases hr
end Go.Ab
