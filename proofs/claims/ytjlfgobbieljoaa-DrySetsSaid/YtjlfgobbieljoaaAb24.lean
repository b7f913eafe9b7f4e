/- The abstract layer, part 24: calls by name; arguments; results. -/
import Derived.Test.YtjlfgobbieljoaaAb23
set_option linter.unusedVariables false
namespace Go.Ab
open Go.RowKit

section
variable {cx : Cx} {P : Program} {N : Nat} {ops : Array Oper} {rest : List Oper} {K : St → Prop} {KD : List It → St → Prop} {its : List It} {d f : Nat} {args : Array Operand} {ts : Array TypeId} {ty : TypeId} {p : String} {af : Array Edge} {S S' : St} {ds : List DV} {res : Res} {R : List Nat}
  {ss : List SV}

variable {gd : Option (Nat × Bool)}
/-- A call of a function by its name, that hands back new memory. -/
theorem c_callF (hP : cx.P = P) (hn : cx.n = N) (hd : d < N) (hgd : GOk ops S gd) (hc : ACallsF P f ds res) (hs : args.toList.map S.ev = ss) (ha : ArgsSV (Borrow S.M) ss ds) (hS : (resEff d S res).app S = S') (k : Chain cx ops rest S' K) :
    Chain cx ops (⟨some d, .call { callee := .value (.func f), args := args, argTypes := ts }, ty, p, af, gd⟩ :: rest) S K :=
  chain_call hP hn hd hgd (pre := []) (caps := []) rfl (.inl ⟨by rw [hs]; exact ha, by simpa using hc⟩) hS k
theorem c_callA (hP : cx.P = P) (hn : cx.n = N) (hd : d < N) (hgd : GOk ops S gd) (hc : ACalls P f ds res) (hs : args.toList.map S.ev = ss) (ha : ArgsSV (Lasting S.M) ss ds) (hS : (resEff d S res).app S = S') (k : Chain cx ops rest S' K) :
    Chain cx ops (⟨some d, .call { callee := .value (.func f), args := args, argTypes := ts }, ty, p, af, gd⟩ :: rest) S K :=
  chain_call hP hn hd hgd (pre := []) (caps := []) rfl (.inr ⟨by rw [hs]; exact ha, by simpa using hc⟩) hS k
/-- A call of a function value. -/
theorem c_callVF {pre caps : List DV} {v : Nat} (hP : cx.P = P) (hn : cx.n = N) (hd : d < N) (hgd : GOk ops S gd) (hf : S.F v = .dv (.fn f pre caps)) (hc : ACallsF P f (pre ++ ds ++ caps) res) (hs : args.toList.map S.ev = ss) (ha : ArgsSV (Borrow S.M) ss ds) (hS : (resEff d S res).app S = S') (k : Chain cx ops rest S' K) :
    Chain cx ops (⟨some d, .call { callee := .value (.tmp v), args := args, argTypes := ts }, ty, p, af, gd⟩ :: rest) S K :=
  chain_call hP hn hd hgd hf (.inl ⟨by rw [hs]; exact ha, hc⟩) hS k
theorem c_callVA {pre caps : List DV} {v : Nat} (hP : cx.P = P) (hn : cx.n = N) (hd : d < N) (hgd : GOk ops S gd) (hf : S.F v = .dv (.fn f pre caps)) (hc : ACalls P f (pre ++ ds ++ caps) res) (hs : args.toList.map S.ev = ss) (ha : ArgsSV (Lasting S.M) ss ds) (hS : (resEff d S res).app S = S') (k : Chain cx ops rest S' K) :
    Chain cx ops (⟨some d, .call { callee := .value (.tmp v), args := args, argTypes := ts }, ty, p, af, gd⟩ :: rest) S K :=
  chain_call hP hn hd hgd hf (.inr ⟨by rw [hs]; exact ha, hc⟩) hS k
theorem d_callF (hP : cx.P = P) (hn : cx.n = N) (hd : d < N) (hgd : GOk ops S gd) (hc : ACallsF P f ds res) (hs : args.toList.map S.ev = ss) (ha : ArgsSV (Borrow (rst R S.M)) ss ds) (hS : (resEff d S res).app S = S') (k : DChain cx ops rest (⟨R ++ resTags d res, resEff d S res⟩ :: its) S' KD) :
    DChain cx ops (⟨some d, .call { callee := .value (.func f), args := args, argTypes := ts }, ty, p, af, gd⟩ :: rest) its S KD :=
  d_call hP hn hd hgd (pre := []) (caps := []) rfl (.inl ⟨by rw [hs]; exact ha, by simpa using hc⟩) hS k
theorem d_callA (hP : cx.P = P) (hn : cx.n = N) (hd : d < N) (hgd : GOk ops S gd) (hc : ACalls P f ds res) (hs : args.toList.map S.ev = ss) (ha : ArgsSV (Lasting (rst R S.M)) ss ds) (hS : (resEff d S res).app S = S') (k : DChain cx ops rest (⟨R ++ resTags d res, resEff d S res⟩ :: its) S' KD) :
    DChain cx ops (⟨some d, .call { callee := .value (.func f), args := args, argTypes := ts }, ty, p, af, gd⟩ :: rest) its S KD :=
  d_call hP hn hd hgd (pre := []) (caps := []) rfl (.inr ⟨by rw [hs]; exact ha, by simpa using hc⟩) hS k
theorem d_callVF {pre caps : List DV} {v : Nat} (hP : cx.P = P) (hn : cx.n = N) (hd : d < N) (hgd : GOk ops S gd) (hf : S.F v = .dv (.fn f pre caps)) (hc : ACallsF P f (pre ++ ds ++ caps) res) (hs : args.toList.map S.ev = ss) (ha : ArgsSV (Borrow (rst R S.M)) ss ds) (hS : (resEff d S res).app S = S') (k : DChain cx ops rest (⟨R ++ resTags d res, resEff d S res⟩ :: its) S' KD) :
    DChain cx ops (⟨some d, .call { callee := .value (.tmp v), args := args, argTypes := ts }, ty, p, af, gd⟩ :: rest) its S KD :=
  d_call hP hn hd hgd hf (.inl ⟨by rw [hs]; exact ha, hc⟩) hS k
theorem d_callVA {pre caps : List DV} {v : Nat} (hP : cx.P = P) (hn : cx.n = N) (hd : d < N) (hgd : GOk ops S gd) (hf : S.F v = .dv (.fn f pre caps)) (hc : ACalls P f (pre ++ ds ++ caps) res) (hs : args.toList.map S.ev = ss) (ha : ArgsSV (Lasting (rst R S.M)) ss ds) (hS : (resEff d S res).app S = S') (k : DChain cx ops rest (⟨R ++ resTags d res, resEff d S res⟩ :: its) S' KD) :
    DChain cx ops (⟨some d, .call { callee := .value (.tmp v), args := args, argTypes := ts }, ty, p, af, gd⟩ :: rest) its S KD :=
  d_call hP hn hd hgd hf (.inr ⟨by rw [hs]; exact ha, hc⟩) hS k
end

/-! what a call hands back, in a state of lists -/
section
variable {l : List (Nat × SV)} {m : List (Nat × Nat × Option Blk)} {d g : Nat}
theorem res_one {x : DV} : (resEff d ⟨lk l, mkM m⟩ (.one (.dv x))).app ⟨lk l, mkM m⟩ = ⟨lk ((d, .dv x) :: l), mkM m⟩ := by
  simp [resEff, Eff.app, impRes, impSV, resMs, impMs, setM, upd_lk]
theorem res_row {esz n : Nat} {elem : TypeId} {cs : List DV} (hg : (mkM m d).1 = g) : (resEff d ⟨lk l, mkM m⟩ (.one (.row esz elem n cs))).app ⟨lk l, mkM m⟩ = ⟨lk ((d, .sl d (g + 1) 0 n) :: l), mkM ((d, g + 1, some ⟨cs.map .dv, esz, elem, 0, true⟩) :: m)⟩ := by
  subst hg
  simp [resEff, Eff.app, impRes, impSV, resMs, impMs, setM, upd_lk, upd_mkM]
theorem res_dvs {x y : DV} {xs : List DV} : (resEff d ⟨lk l, mkM m⟩ (.many (.dv x :: .dv y :: xs.map .dv))).app ⟨lk l, mkM m⟩ = ⟨lk ((d, .tup (.dv x :: .dv y :: xs.map .dv)) :: l), mkM m⟩ := by
  have h1 : ∀ (xs : List DV) (j : Nat) (M : Nat → Nat × Option Blk), impSV d j (xs.map .dv) M = (xs.map .dv, M) := by
    intro xs
    induction xs with
    | nil => intro j M; rfl
    | cons x xs ih => intro j M; simp [impSV, ih]
  have h2 : ∀ (xs : List DV) (j : Nat) (M : Nat → Nat × Option Blk), impMs d j (xs.map .dv) M = [] := by
    intro xs
    induction xs with
    | nil => intro j M; rfl
    | cons x xs ih => intro j M; simp [impMs, ih]
  simp [resEff, Eff.app, impRes, impSV, resMs, impMs, setM, upd_lk, h1, h2]
theorem res_two {x y : DV} : (resEff d ⟨lk l, mkM m⟩ (.many [.dv x, .dv y])).app ⟨lk l, mkM m⟩ = ⟨lk ((d, .tup [.dv x, .dv y]) :: l), mkM m⟩ := res_dvs (xs := [])
theorem res_three {x y z : DV} : (resEff d ⟨lk l, mkM m⟩ (.many [.dv x, .dv y, .dv z])).app ⟨lk l, mkM m⟩ = ⟨lk ((d, .tup [.dv x, .dv y, .dv z]) :: l), mkM m⟩ := res_dvs (xs := [z])
/-- A row and a datum. -/
theorem res_rowdv {esz n : Nat} {elem : TypeId} {cs : List DV} {x : DV} (hg : (mkM m d).1 = g) : (resEff d ⟨lk l, mkM m⟩ (.many [.row esz elem n cs, .dv x])).app ⟨lk l, mkM m⟩ = ⟨lk ((d, .tup [.sl d (g + 1) 0 n, .dv x]) :: l), mkM ((d, g + 1, some ⟨cs.map .dv, esz, elem, 0, true⟩) :: m)⟩ := by
  subst hg
  simp [resEff, Eff.app, impRes, impSV, resMs, impMs, setM, upd_lk, upd_mkM]
theorem res_rowdvdv {esz n : Nat} {elem : TypeId} {cs : List DV} {x y : DV} (hg : (mkM m d).1 = g) : (resEff d ⟨lk l, mkM m⟩ (.many [.row esz elem n cs, .dv x, .dv y])).app ⟨lk l, mkM m⟩ = ⟨lk ((d, .tup [.sl d (g + 1) 0 n, .dv x, .dv y]) :: l), mkM ((d, g + 1, some ⟨cs.map .dv, esz, elem, 0, true⟩) :: m)⟩ := by
  subst hg
  simp [resEff, Eff.app, impRes, impSV, resMs, impMs, setM, upd_lk, upd_mkM]
end

/-! arguments -/
section
variable {ok : Nat → Prop} {okd : DV → Prop} {M : Nat → Nat × Option Blk}
theorem args_nil : ArgsSV (Data ok okd M) [] [] := trivial
theorem args_cons {s : SV} {d : DV} {ss : List SV} {ds : List DV} (h : Data ok okd M s d) (k : ArgsSV (Data ok okd M) ss ds) : ArgsSV (Data ok okd M) (s :: ss) (d :: ds) := ⟨h, k⟩
theorem data_dv {d : DV} : Data ok (fun _ => True) M (.dv d) d := .dv d trivial
/-- A row whose cells are data. -/
theorem data_row {t g n : Nat} {blk : Blk} {l : List DV} (hM : M t = (g, some blk)) (hst : ok blk.st) (hl : l.length = n) (he : ∀ d ∈ l, d.cells.length = blk.esz) (hc : blk.cells = (flat l).map .dv) (hd : ∀ c ∈ flat l, okd c) : Data ok okd M (.sl t g 0 n) (.list l) := by
  refine .sl t g 0 n blk l (fun j => .dv ((flat l).getD j default)) hM hst hl he (fun j c hj => ?_) fun j c hj => ?_
  · simp [hc, hj]
  · have : (flat l).getD j default = c := by simp [hj]
    rw [this]
    exact .dv c (hd c (List.mem_of_getElem? hj))
theorem flat_one {α : Type} {F : α → DV} {L : List α} (hF : ∀ q, (F q).cells = [F q]) : flat (L.map F) = L.map F := by
  unfold flat
  induction L with
  | nil => rfl
  | cons q L ih => simp only [List.map_cons, List.flatMap_cons, hF, List.cons_append, List.nil_append]; rw [ih]
theorem data_ints {t g n : Nat} {blk : Blk} {k : IntKind} {L : List Int} (hM : M t = (g, some blk)) (hst : ok blk.st) (hl : L.length = n) (he : blk.esz = 1) (hc : blk.cells = L.map fun q => .dv (.int k q)) (hd : ∀ q, okd (.int k q)) : Data ok okd M (.sl t g 0 n) (.list (L.map (DV.int k))) := by
  have hf : flat (L.map (DV.int k)) = L.map (DV.int k) := flat_one fun _ => rfl
  refine data_row hM hst (by simpa using hl) (fun d hd' => ?_) ?_ fun c hc' => ?_
  · obtain ⟨q, _, rfl⟩ := List.mem_map.1 hd'; rw [he]; rfl
  · rw [hf, hc, List.map_map]; rfl
  · rw [hf] at hc'; obtain ⟨q, _, rfl⟩ := List.mem_map.1 hc'; exact hd q
end

/-! ends -/
theorem retOk_dv {okd : DV → Prop} {M : Nat → Nat × Option Blk} {s : SV} {d : DV} (h : Data (fun _ => True) okd M s d) : RetOk okd M s (.dv d) := h
theorem retOk_ints {okd : DV → Prop} {M : Nat → Nat × Option Blk} {t g n : Nat} {k : IntKind} {elem : TypeId} {L : List Int} (hM : M t = (g, some ⟨L.map fun q => .dv (.int k q), 1, elem, 0, true⟩)) (hl : L.length = n) : RetOk okd M (.sl t g 0 n) (.row 1 elem n (L.map (DV.int k))) := by
  refine .inr ⟨t, g, rfl, ?_, by simp [hl], fun c hc => ?_⟩
  · rw [hM, List.map_map]; rfl
  · obtain ⟨q, _, rfl⟩ := List.mem_map.1 hc; exact .int _ _

theorem retOk_nil {okd : DV → Prop} {M : Nat → Nat × Option Blk} {esz : Nat} {elem : TypeId} : RetOk okd M .nils (.row esz elem 0 []) := .inl ⟨rfl, rfl, rfl⟩

/-- A row read as a datum. -/
theorem R1Rep.rowdv {B : Nat} {w : World} {Y : Nat → Prop} {esz n : Nat} {elem : TypeId} {cs : List DV} {l : List DV} {v : Value} {ob : Option (Nat × Nat)} (hY : ∀ b, Y b → b < B) (hl : l.length = n) (hc : flat l = cs) (he : ∀ d ∈ l, d.cells.length = esz) (h : R1Rep B w (fun b => Y b ∨ usedBy [ob] b) (.row esz elem n cs) v ob) :
    RepD w Y (.list l) v := by
  obtain ⟨h1, h2, h3⟩ := h
  cases ob with
  | none =>
    obtain ⟨rfl, rfl⟩ := h3
    have : l = [] := List.eq_nil_of_length_eq_zero hl
    subst this
    exact .listNil _ _
  | some p =>
    obtain ⟨b, cap⟩ := p
    obtain ⟨q1, q2, rfl, q3, cur, q4, q5, q6, q7, q8⟩ := h3
    subst hl; subst hc
    have hx : ∀ j c, (flat l)[j]? = some c → ∃ u, cur[j]? = some u := fun j c hj => by
      have := (List.getElem?_eq_some_iff.1 hj).1
      have hj' : j < cur.size := by omega
      exact ⟨_, Array.getElem?_eq_getElem hj'⟩
    refine .list l b 0 cap esz (fun j => cur.getD j undef) (fun hh => by have := hY b hh; omega) q2 q3 he (fun j c hj => ?_) fun j c hj => ?_
    · obtain ⟨u, hu⟩ := hx j c hj
      simp [World.cell?, q4, hu]
    · obtain ⟨u, hu⟩ := hx j c hj
      have hg : cur.getD j undef = u := by simp [hu]
      rw [hg]
      exact (h1 c (List.mem_of_getElem? hj)).rep (q8 j c u hj hu)
theorem ACallsF.rowdv {P : Program} {f : FuncId} {ds : List DV} {esz n : Nat} {elem : TypeId} {cs l : List DV} (h : ACallsF P f ds (.one (.row esz elem n cs))) (hl : l.length = n) (hc : flat l = cs) (he : ∀ d ∈ l, d.cells.length = esz) : ACallsF P f ds (.one (.dv (.list l))) := by
  refine ⟨h.1, fun w vs hA => (h.2 w vs hA).mono fun e w' ⟨v, h1, h2, ob, h3⟩ => ⟨v, h1, h2, none, rfl, ?_⟩⟩
  exact (R1Rep.rowdv (Y := fun b => b < w.heap.size) (fun b hb => hb) hl hc he h3).weaken fun b hb => hb.elim id fun ⟨c, hc⟩ => by simp at hc

theorem end_one {P : Program} {okd : DV → Prop} {S : St} {e : Exit} {t : Nat} {s : SV} {r : R1} (he : e = .normal ∨ e = .ret) (hs : S.F t = s) (hr : RetOk okd S.M s r) (ha : (∃ d, r = .dv d) ∨ ∀ d, r = .dv d → Scalar d) : EndK P okd [.tmp t] (.one r) e S := by
  refine ⟨he, [s], [r], by simp [resSV, hs], ⟨hr, trivial⟩, ?_, rfl⟩
  rcases ha with ⟨d, rfl⟩ | ha
  · exact .inl fun r hr => ⟨d, by simpa using hr⟩
  · refine .inr ⟨fun r' hr' d hd => ?_, ?_⟩
    · simp only [List.mem_singleton] at hr'; subst hr'; exact ha d hd
    · cases s <;> cases r <;> simp [tagsOf]
theorem end_dv {P : Program} {okd : DV → Prop} {S : St} {e : Exit} {t : Nat} {d : DV} (he : e = .normal ∨ e = .ret) (hs : S.F t = .dv d) (hd : okd d) : EndK P okd [.tmp t] (.one (.dv d)) e S :=
  end_one he hs (retOk_dv (.dv d hd)) (.inl ⟨d, rfl⟩)
theorem end_dv2 {P : Program} {okd : DV → Prop} {S : St} {e : Exit} {t u : Nat} {d c : DV} (he : e = .normal ∨ e = .ret) (hs : S.F t = .dv d) (hu : S.F u = .dv c) (hd : okd d) (hc : okd c) : EndK P okd [.tmp t, .tmp u] (.many [.dv d, .dv c]) e S := by
  refine ⟨he, [.dv d, .dv c], [.dv d, .dv c], by simp [resSV, hs, hu], ⟨retOk_dv (.dv d hd), retOk_dv (.dv c hc), trivial⟩, .inl fun r hr => ?_, rfl⟩
  simp only [List.mem_cons, List.not_mem_nil, or_false] at hr
  rcases hr with rfl | rfl
  · exact ⟨d, rfl⟩
  · exact ⟨c, rfl⟩
theorem end_res1 {P : Program} {okd : DV → Prop} {S : St} {e : Exit} {t : Nat} {s1 : SV} {d1 : DV} (he : e = .normal ∨ e = .ret) (hs : S.F t = s1) (h1 : Data (fun _ => True) okd S.M s1 d1) : EndK P okd [.tmp t] (.one (.dv d1)) e S :=
  end_one he hs h1 (.inl ⟨d1, rfl⟩)
theorem end_res2 {P : Program} {okd : DV → Prop} {S : St} {e : Exit} {t u : Nat} {s1 s2 : SV} {d1 d2 : DV} (he : e = .normal ∨ e = .ret) (hs : S.F t = s1) (hu : S.F u = s2) (h1 : Data (fun _ => True) okd S.M s1 d1) (h2 : Data (fun _ => True) okd S.M s2 d2) :
    EndK P okd [.tmp t, .tmp u] (.many [.dv d1, .dv d2]) e S := by
  refine ⟨he, [s1, s2], [.dv d1, .dv d2], by simp [resSV, hs, hu], ⟨h1, h2, trivial⟩, .inl fun r hr => ?_, rfl⟩
  simp only [List.mem_cons, List.not_mem_nil, or_false] at hr
  rcases hr with rfl | rfl
  · exact ⟨d1, rfl⟩
  · exact ⟨d2, rfl⟩
theorem end_res3 {P : Program} {okd : DV → Prop} {S : St} {e : Exit} {t u v : Nat} {s1 s2 s3 : SV} {d1 d2 d3 : DV} (he : e = .normal ∨ e = .ret) (hs : S.F t = s1) (hu : S.F u = s2) (hv : S.F v = s3) (h1 : Data (fun _ => True) okd S.M s1 d1) (h2 : Data (fun _ => True) okd S.M s2 d2)
    (h3 : Data (fun _ => True) okd S.M s3 d3) : EndK P okd [.tmp t, .tmp u, .tmp v] (.many [.dv d1, .dv d2, .dv d3]) e S := by
  refine ⟨he, [s1, s2, s3], [.dv d1, .dv d2, .dv d3], by simp [resSV, hs, hu, hv], ⟨h1, h2, h3, trivial⟩, .inl fun r hr => ?_, rfl⟩
  simp only [List.mem_cons, List.not_mem_nil, or_false] at hr
  rcases hr with rfl | rfl | rfl
  · exact ⟨d1, rfl⟩
  · exact ⟨d2, rfl⟩
  · exact ⟨d3, rfl⟩

/-! rows of integers -/
theorem svLes_ints {τ : Nat → Option Nat} {M M' : Nat → Nat × Option Blk} {k : IntKind} : ∀ {L L' : List Int}, svLes τ M M' (L.map fun q => .dv (.int k q)) (L'.map fun q => .dv (.int k q)) ↔ L = L'
  | [], [] => by simp [svLes]
  | [], _ :: _ => by simp [svLes]
  | _ :: _, [] => by simp [svLes]
  | a :: L, b :: L' => by
    simp only [List.map_cons, svLes, svLe, DV.int.injEq, true_and, svLes_ints, List.cons.injEq]
theorem ints_snoc {k : IntKind} {L : List Int} {v : Int} : (L.map fun q => SV.dv (.int k q)) ++ [SV.dv (.int k v)] = (L ++ [v]).map fun q => .dv (.int k q) := by simp
theorem ints_app {k : IntKind} {L L' : List Int} : (L.map fun q => SV.dv (.int k q)) ++ (L'.map fun q => SV.dv (.int k q)) = (L ++ L').map fun q => .dv (.int k q) := by simp

abbrev rowK (k : IntKind) (e : TypeId) (L : List Int) : Blk := ⟨L.map fun q => .dv (.int k q), 1, e, 0, true⟩
abbrev rK (k : IntKind) (e : TypeId) (L : List Int) : R1 := .row 1 e L.length (L.map (DV.int k))
section
variable {l : List (Nat × SV)} {m : List (Nat × Nat × Option Blk)} {d g : Nat} {k : IntKind} {e : TypeId} {L : List Int}
theorem rowK_eq : (⟨(L.map (DV.int k)).map .dv, 1, e, 0, true⟩ : Blk) = rowK k e L := by simp
theorem res_rK1 (hg : (mkM m d).1 = g) : (resEff d ⟨lk l, mkM m⟩ (.one (rK k e L))).app ⟨lk l, mkM m⟩ = ⟨lk ((d, .sl d (g + 1) 0 L.length) :: l), mkM ((d, g + 1, some (rowK k e L)) :: m)⟩ := by
  rw [res_row hg, rowK_eq]
theorem res_rK2 {x : DV} (hg : (mkM m d).1 = g) : (resEff d ⟨lk l, mkM m⟩ (.many [rK k e L, .dv x])).app ⟨lk l, mkM m⟩ = ⟨lk ((d, .tup [.sl d (g + 1) 0 L.length, .dv x]) :: l), mkM ((d, g + 1, some (rowK k e L)) :: m)⟩ := by
  rw [res_rowdv hg, rowK_eq]
theorem res_rK3 {x y : DV} (hg : (mkM m d).1 = g) : (resEff d ⟨lk l, mkM m⟩ (.many [rK k e L, .dv x, .dv y])).app ⟨lk l, mkM m⟩ = ⟨lk ((d, .tup [.sl d (g + 1) 0 L.length, .dv x, .dv y]) :: l), mkM ((d, g + 1, some (rowK k e L)) :: m)⟩ := by
  rw [res_rowdvdv hg, rowK_eq]
end
theorem retOk_rK {okd : DV → Prop} {M : Nat → Nat × Option Blk} {t g n : Nat} {k : IntKind} {e : TypeId} {L : List Int} (hM : M t = (g, some (rowK k e L))) (hl : n = L.length) : RetOk okd M (.sl t g 0 n) (rK k e L) := by
  subst hl; exact retOk_ints hM rfl
theorem retOk_rK0 {okd : DV → Prop} {M : Nat → Nat × Option Blk} {k : IntKind} {e : TypeId} : RetOk okd M .nils (rK k e []) := retOk_nil
theorem end_row1 {P : Program} {okd : DV → Prop} {S : St} {x : Exit} {t : Nat} {s1 : SV} {k : IntKind} {e : TypeId} {L : List Int} (he : x = .normal ∨ x = .ret) (hs : S.F t = s1) (h1 : RetOk okd S.M s1 (rK k e L)) : EndK P okd [.tmp t] (.one (rK k e L)) x S :=
  end_one he hs h1 (.inr fun d hd => by cases hd)
theorem end_row2 {P : Program} {okd : DV → Prop} {S : St} {x : Exit} {t u : Nat} {s1 s2 : SV} {k : IntKind} {e : TypeId} {L : List Int} {d : DV} (he : x = .normal ∨ x = .ret) (hs : S.F t = s1) (hu : S.F u = s2) (h1 : RetOk okd S.M s1 (rK k e L)) (h2 : Data (fun _ => True) okd S.M s2 d) (hd : Scalar d) :
    EndK P okd [.tmp t, .tmp u] (.many [rK k e L, .dv d]) x S := by
  refine ⟨he, [s1, s2], [rK k e L, .dv d], by simp [resSV, hs, hu], ⟨h1, h2, trivial⟩, .inr ⟨fun r hr q hq => ?_, ?_⟩, rfl⟩
  · simp only [List.mem_cons, List.not_mem_nil, or_false] at hr
    rcases hr with rfl | rfl
    · cases hq
    · cases hq; exact hd
  · cases s1 <;> cases s2 <;> simp [tagsOf]
theorem end_row3 {P : Program} {okd : DV → Prop} {S : St} {x : Exit} {t u v : Nat} {s1 s2 s3 : SV} {k : IntKind} {e : TypeId} {L : List Int} {d c : DV} (he : x = .normal ∨ x = .ret) (hs : S.F t = s1) (hu : S.F u = s2) (hv : S.F v = s3) (h1 : RetOk okd S.M s1 (rK k e L)) (h2 : Data (fun _ => True) okd S.M s2 d)
    (h3 : Data (fun _ => True) okd S.M s3 c) (hd : Scalar d) (hc : Scalar c) : EndK P okd [.tmp t, .tmp u, .tmp v] (.many [rK k e L, .dv d, .dv c]) x S := by
  refine ⟨he, [s1, s2, s3], [rK k e L, .dv d, .dv c], by simp [resSV, hs, hu, hv], ⟨h1, h2, h3, trivial⟩, .inr ⟨fun r hr q hq => ?_, ?_⟩, rfl⟩
  · simp only [List.mem_cons, List.not_mem_nil, or_false] at hr
    rcases hr with rfl | rfl | rfl
    · cases hq
    · cases hq; exact hd
    · cases hq; exact hc
  · cases s1 <;> cases s2 <;> cases s3 <;> simp [tagsOf]

/-! cells that are data -/
def isDvs : List SV → Bool
  | [] => true
  | .dv _ :: l => isDvs l
  | _ :: _ => false
theorem isDvs_iff : ∀ {l : List SV}, isDvs l = true ↔ ∀ c ∈ l, ∃ d, c = .dv d
  | [] => by simp [isDvs]
  | .dv d :: l => by simp [isDvs, isDvs_iff (l := l)]
  | .dead :: l | .nils :: l | .emp _ :: l | .sl .. :: l | .pt .. :: l | .agg _ :: l | .tup _ :: l => by simp [isDvs]
theorem isDvs_map {α : Type} {F : α → DV} {L : List α} : isDvs (L.map fun q => .dv (F q)) = true := by simp [isDvs_iff]
theorem isDvs_app {a b : List SV} : isDvs (a ++ b) = (isDvs a && isDvs b) := by
  rw [Bool.eq_iff_iff, Bool.and_eq_true, isDvs_iff, isDvs_iff, isDvs_iff]
  simp only [List.mem_append, or_imp, forall_and]
theorem isDvs_take {a : List SV} {n : Nat} (h : isDvs a = true) : isDvs (a.take n) = true := isDvs_iff.2 fun c hc => isDvs_iff.1 h c (List.mem_of_mem_take hc)
theorem isDvs_set {a : List SV} {n : Nat} {d : DV} (h : isDvs a = true) : isDvs (a.set n (.dv d)) = true := isDvs_iff.2 fun c hc => by
  rcases List.mem_or_eq_of_mem_set hc with h1 | h1
  · exact isDvs_iff.1 h c h1
  · exact ⟨d, h1⟩
theorem isDvs_repl {n : Nat} {d : DV} : isDvs (List.replicate n (.dv d)) = true := isDvs_iff.2 fun c hc => ⟨d, List.eq_of_mem_replicate hc⟩
theorem svLes_self {τ : Nat → Option Nat} {M M' : Nat → Nat × Option Blk} : ∀ {cs : List SV}, isDvs cs = true → svLes τ M M' cs cs
  | [], _ => by simp [svLes]
  | .dv d :: cs, h => by simp only [svLes, svLe, true_and]; exact svLes_self (by simpa only [isDvs] using h)
  | .dead :: l, h | .nils :: l, h | .emp _ :: l, h | .sl .. :: l, h | .pt .. :: l, h | .agg _ :: l, h | .tup _ :: l, h => by simp [isDvs] at h
end Go.Ab
