/- The abstract layer, part 22: the moves of a walk. -/
import Derived.Test.YtjlfgobbieljoaaAb21
set_option linter.unusedVariables false
namespace Go.Ab
open Go.RowKit

/-- The operation is carried out. -/
def GOk (ops : Array Oper) (S : St) : Option (Nat × Bool) → Prop
  | none => True
  | some (j, want) => ∃ s, slotOf ops j = some s ∧ S.F s = .dv (.bool want)

section
variable {cx : Cx} {P : Program} {N : Nat} {ops : Array Oper} {rest : List Oper} {l : List (Nat × SV)} {m m' : List (Nat × Nat × Option Blk)} {K : St → Prop} {KD : List It → St → Prop} {its : List It}
  {d g k t gt j s : Nat} {op : Op} {ty : TypeId} {p : String} {af : Array Edge} {r : SV} {blk b : Blk} {R : List Nat} {want c : Bool} {gd : Option (Nat × Bool)}

theorem eff_val (hd : d < N) (S : St) : effOf N S (some d) (.val r) = some ⟨some d, r, false, []⟩ := by simp [effOf, hd]
theorem app_val : (⟨some d, r, false, []⟩ : Eff).app ⟨lk l, mkM m⟩ = ⟨lk ((d, r) :: l), mkM m⟩ := by simp [Eff.app, setM, upd_lk]
theorem eff_pt (hd : d < N) (hb : blk.row = false) (hg : (mkM m d).1 = g) : effOf N ⟨lk l, mkM m⟩ (some d) (.mk blk k) = some ⟨some d, .pt d (g + 1) 0, false, [(d, g + 1, some blk)]⟩ := by simp [effOf, hd, hb, hg]
theorem eff_row (hd : d < N) (hb : blk.row = true) (hg : (mkM m d).1 = g) : effOf N ⟨lk l, mkM m⟩ (some d) (.mk blk k) = some ⟨some d, .sl d (g + 1) 0 k, false, [(d, g + 1, some blk)]⟩ := by simp [effOf, hd, hb, hg]
theorem app_one {v : SV} : (⟨some d, v, false, [(t, g, some blk)]⟩ : Eff).app ⟨lk l, mkM m⟩ = ⟨lk ((d, v) :: l), mkM ((t, g, some blk) :: m)⟩ := by simp [Eff.app, setM, upd_lk, upd_mkM]
theorem eff_app0 (hd : d < N) (hg : (mkM m d).1 = g) : effOf N ⟨lk l, mkM m⟩ (some d) (.app none blk k) = some ⟨some d, .sl d (g + 1) 0 k, false, [(d, g + 1, some blk)]⟩ := by simp [effOf, hd, hg]
theorem eff_app1 (hd : d < N) (hg : (mkM m d).1 = g) (ht : mkM m t = (gt, some b)) (hb : OwS b.st) : effOf N ⟨lk l, mkM m⟩ (some d) (.app (some t) blk k) = some ⟨some d, .sl d (g + 1) 0 k, false, [(t, gt, some { b with st := 2 }), (d, g + 1, some blk)]⟩ := by simp [effOf, hd, hg, ht, hb]
theorem app_two {v : SV} {b1 b2 : Blk} {t1 g1 t2 g2 : Nat} : (⟨some d, v, false, [(t1, g1, some b1), (t2, g2, some b2)]⟩ : Eff).app ⟨lk l, mkM m⟩ = ⟨lk ((d, v) :: l), mkM ((t2, g2, some b2) :: (t1, g1, some b1) :: m)⟩ := by simp [Eff.app, setM, upd_lk, upd_mkM]
theorem eff_put (ht : mkM m t = (gt, some b)) (hb : OwS b.st) : effOf N ⟨lk l, mkM m⟩ none (.put t blk) = some ⟨none, .dead, true, [(t, gt, some blk)]⟩ := by simp [effOf, ht, hb]
theorem app_put (hv : nvL m = m') : (⟨none, .dead, true, [(t, gt, some blk)]⟩ : Eff).app ⟨lk l, mkM m⟩ = ⟨lk l, mkM ((t, gt, some blk) :: m')⟩ := by simp [Eff.app, setM, upd_mkM, noViews_mkM, hv]

theorem gstep_of {S S' : St} {o : Oper} (hgd : GOk ops S o.guard) (h : Step cx S o S') : GStep cx ops S o S' := by
  unfold GStep
  unfold GOk at hgd
  split
  · exact h
  · rename_i j want e
    rw [e] at hgd
    obtain ⟨s, h1, h2⟩ := hgd
    exact ⟨s, h1, .inl ⟨h2, h⟩⟩

theorem chain_out {S S' : St} {o : Oper} {out : Out} {e : Eff} (hP : cx.P = P) (hn : cx.n = N) (hgd : GOk ops S o.guard) (h : outOf P S o.op = some out) (he : effOf N S o.dst out = some e) (hS : e.app S = S') (k : Chain cx ops rest S' K) : Chain cx ops (o :: rest) S K := by
  subst hP; subst hn; subst hS
  exact ⟨_, gstep_of hgd (.out out h (apply_eff he)), k⟩

theorem c_val (hP : cx.P = P) (hn : cx.n = N) (hd : d < N) (hgd : GOk ops ⟨lk l, mkM m⟩ gd) (h : outOf P ⟨lk l, mkM m⟩ op = some (.val r)) (k : Chain cx ops rest ⟨lk ((d, r) :: l), mkM m⟩ K) : Chain cx ops (⟨some d, op, ty, p, af, gd⟩ :: rest) ⟨lk l, mkM m⟩ K :=
  chain_out hP hn hgd h (eff_val hd _) app_val k
theorem c_pt (hP : cx.P = P) (hn : cx.n = N) (hd : d < N) (hgd : GOk ops ⟨lk l, mkM m⟩ gd) (h : outOf P ⟨lk l, mkM m⟩ op = some (.mk blk k)) (hb : blk.row = false) (hg : (mkM m d).1 = g) (kk : Chain cx ops rest ⟨lk ((d, .pt d (g + 1) 0) :: l), mkM ((d, g + 1, some blk) :: m)⟩ K) :
    Chain cx ops (⟨some d, op, ty, p, af, gd⟩ :: rest) ⟨lk l, mkM m⟩ K := chain_out hP hn hgd h (eff_pt hd hb hg) app_one kk
theorem c_row (hP : cx.P = P) (hn : cx.n = N) (hd : d < N) (hgd : GOk ops ⟨lk l, mkM m⟩ gd) (h : outOf P ⟨lk l, mkM m⟩ op = some (.mk blk k)) (hb : blk.row = true) (hg : (mkM m d).1 = g) (kk : Chain cx ops rest ⟨lk ((d, .sl d (g + 1) 0 k) :: l), mkM ((d, g + 1, some blk) :: m)⟩ K) :
    Chain cx ops (⟨some d, op, ty, p, af, gd⟩ :: rest) ⟨lk l, mkM m⟩ K := chain_out hP hn hgd h (eff_row hd hb hg) app_one kk
theorem c_app0 (hP : cx.P = P) (hn : cx.n = N) (hd : d < N) (hgd : GOk ops ⟨lk l, mkM m⟩ gd) (h : outOf P ⟨lk l, mkM m⟩ op = some (.app none blk k)) (hg : (mkM m d).1 = g) (kk : Chain cx ops rest ⟨lk ((d, .sl d (g + 1) 0 k) :: l), mkM ((d, g + 1, some blk) :: m)⟩ K) :
    Chain cx ops (⟨some d, op, ty, p, af, gd⟩ :: rest) ⟨lk l, mkM m⟩ K := chain_out hP hn hgd h (eff_app0 hd hg) app_one kk
theorem c_app1g (hP : cx.P = P) (hn : cx.n = N) (hd : d < N) (hgd : GOk ops ⟨lk l, mkM m⟩ gd) (h : outOf P ⟨lk l, mkM m⟩ op = some (.app (some t) blk k)) (hg : (mkM m d).1 = g) (ht : mkM m t = (gt, some b)) (hb : OwS b.st)
    (kk : Chain cx ops rest ⟨lk ((d, .sl d (g + 1) 0 k) :: l), mkM ((d, g + 1, some blk) :: (t, gt, some { b with st := 2 }) :: m)⟩ K) :
    Chain cx ops (⟨some d, op, ty, p, af, gd⟩ :: rest) ⟨lk l, mkM m⟩ K := chain_out hP hn hgd h (eff_app1 hd hg ht hb) app_two kk
theorem c_app1 (hP : cx.P = P) (hn : cx.n = N) (hd : d < N) (hgd : GOk ops ⟨lk l, mkM m⟩ gd) (h : outOf P ⟨lk l, mkM m⟩ op = some (.app (some t) blk k)) (hg : (mkM m d).1 = g) (ht : mkM m t = (gt, some b)) (hb : b.st = 0)
    (kk : Chain cx ops rest ⟨lk ((d, .sl d (g + 1) 0 k) :: l), mkM ((d, g + 1, some blk) :: (t, gt, some { b with st := 2 }) :: m)⟩ K) :
    Chain cx ops (⟨some d, op, ty, p, af, gd⟩ :: rest) ⟨lk l, mkM m⟩ K := c_app1g hP hn hd hgd h hg ht (.inl hb) kk
theorem c_putg (hP : cx.P = P) (hn : cx.n = N) (hgd : GOk ops ⟨lk l, mkM m⟩ gd) (h : outOf P ⟨lk l, mkM m⟩ op = some (.put t blk)) (ht : mkM m t = (gt, some b)) (hb : OwS b.st) (hv : nvL m = m')
    (kk : Chain cx ops rest ⟨lk l, mkM ((t, gt, some blk) :: m')⟩ K) : Chain cx ops (⟨none, op, ty, p, af, gd⟩ :: rest) ⟨lk l, mkM m⟩ K := chain_out hP hn hgd h (eff_put ht hb) (app_put hv) kk
theorem c_put (hP : cx.P = P) (hn : cx.n = N) (hgd : GOk ops ⟨lk l, mkM m⟩ gd) (h : outOf P ⟨lk l, mkM m⟩ op = some (.put t blk)) (ht : mkM m t = (gt, some b)) (hb : b.st = 0) (hv : nvL m = m')
    (kk : Chain cx ops rest ⟨lk l, mkM ((t, gt, some blk) :: m')⟩ K) : Chain cx ops (⟨none, op, ty, p, af, gd⟩ :: rest) ⟨lk l, mkM m⟩ K := c_putg hP hn hgd h ht (.inl hb) hv kk
theorem c_none (hP : cx.P = P) (hn : cx.n = N) (hgd : GOk ops ⟨lk l, mkM m⟩ gd) (h : outOf P ⟨lk l, mkM m⟩ op = some (.val r)) (kk : Chain cx ops rest ⟨lk l, mkM m⟩ K) : Chain cx ops (⟨none, op, ty, p, af, gd⟩ :: rest) ⟨lk l, mkM m⟩ K :=
  chain_out hP hn hgd h (e := ⟨none, .dead, false, []⟩) (by simp [effOf]) (by simp [Eff.app, setM]) kk
/-- A truth value that is asked: both ways. -/
theorem c_split (hP : cx.P = P) (hn : cx.n = N) (hd : d < N) (hgd : GOk ops ⟨lk l, mkM m⟩ gd) (h : outOf P ⟨lk l, mkM m⟩ op = some (.val (.dv (.bool c)))) (k1 : c = true → Chain cx ops rest ⟨lk ((d, .dv (.bool true)) :: l), mkM m⟩ K) (k2 : c = false → Chain cx ops rest ⟨lk ((d, .dv (.bool false)) :: l), mkM m⟩ K) :
    Chain cx ops (⟨some d, op, ty, p, af, gd⟩ :: rest) ⟨lk l, mkM m⟩ K :=
  c_val hP hn hd hgd h (by cases c with | true => exact k1 rfl | false => exact k2 rfl)
theorem c_skipW (hj : slotOf ops j = some s) (hb : NotW want (lk l s)) (k : Chain cx ops rest ⟨lk ((d, .tup []) :: l), mkM m⟩ K) : Chain cx ops (⟨some d, op, ty, p, af, some (j, want)⟩ :: rest) ⟨lk l, mkM m⟩ K := by
  refine ⟨_, ?_, k⟩
  unfold GStep
  refine ⟨s, hj, .inr ⟨hb, ?_⟩⟩
  simp only [St.skip, upd_lk]
theorem c_skipnW (hj : slotOf ops j = some s) (hb : NotW want (lk l s)) (k : Chain cx ops rest ⟨lk l, mkM m⟩ K) : Chain cx ops (⟨none, op, ty, p, af, some (j, want)⟩ :: rest) ⟨lk l, mkM m⟩ K := by
  refine ⟨_, ?_, k⟩
  unfold GStep
  exact ⟨s, hj, .inr ⟨hb, rfl⟩⟩
theorem c_skip (hj : slotOf ops j = some s) (hb : lk l s = .dv (.bool c)) (hne : c ≠ want) (k : Chain cx ops rest ⟨lk ((d, .tup []) :: l), mkM m⟩ K) : Chain cx ops (⟨some d, op, ty, p, af, some (j, want)⟩ :: rest) ⟨lk l, mkM m⟩ K :=
  c_skipW hj (by show NotW want (lk l s); rw [hb]; exact .ne hne) k
theorem c_skipn (hj : slotOf ops j = some s) (hb : lk l s = .dv (.bool c)) (hne : c ≠ want) (k : Chain cx ops rest ⟨lk l, mkM m⟩ K) : Chain cx ops (⟨none, op, ty, p, af, some (j, want)⟩ :: rest) ⟨lk l, mkM m⟩ K := by
  exact c_skipnW hj (by rw [hb]; exact .ne hne) k
def frzL (m : List (Nat × Nat × Option Blk)) : List Nat → Option (List (Nat × Nat × Option Blk))
  | [] => some m
  | t :: ts => match mkM m t with
    | (g, some b) => if OwS b.st ∨ b.st = 1 then frzL ((t, g, some { b with st := 1 }) :: m) ts else none
    | _ => none
theorem frz_mkM : ∀ {ts : List Nat} {m m' : List (Nat × Nat × Option Blk)}, frzL m ts = some m' → frz (mkM m) ts = some (mkM m')
  | [], m, m', h => by simp only [frzL, Option.some.injEq] at h; subst h; rfl
  | t :: ts, m, m', h => by
    simp only [frzL] at h
    simp only [frz]
    split at h
    · rename_i g b e
      split at h
      · rename_i hb
        simp only [e, hb, if_true, upd_mkM]
        exact frz_mkM h
      · cases h
    · cases h
/-- A function value. -/
theorem c_fn {f : FuncId} {pre caps : Array Operand} {ps cs : List DV} {ts us : List Nat} (hP : cx.P = P) (hn : cx.n = N) (hd : d < N) (hgd : GOk ops ⟨lk l, mkM m⟩ gd) (h1 : capsSV (pre.toList.map (St.look ⟨lk l, mkM m⟩)) = some (ps, ts)) (h2 : capsSV (caps.toList.map (St.look ⟨lk l, mkM m⟩)) = some (cs, us))
    (h3 : frzL m (ts ++ us) = some m') (k : Chain cx ops rest ⟨lk ((d, .dv (.fn f ps cs)) :: l), mkM m'⟩ K) : Chain cx ops (⟨some d, .makeFunc (.func f) pre caps, ty, p, af, gd⟩ :: rest) ⟨lk l, mkM m⟩ K := by
  subst hn
  refine ⟨_, gstep_of hgd (.fn f pre caps rfl ?_), k⟩
  simp only [St.applyFn, h1, h2, frz_mkM h3, hd, if_true, upd_lk]

/-! calls, in the order of the text -/
theorem chain_call (hP : cx.P = P) (hn : cx.n = N) (hd : d < N) {f' : Operand} {args : Array Operand} {ts : Array TypeId} {f : FuncId} {pre ds caps : List DV} {S S' : St} (hgd : GOk ops S gd) (hf : S.ev f' = .dv (.fn f pre caps)) {res : Res}
    (hc : (ArgsSV (Borrow S.M) (args.toList.map S.ev) ds ∧ ACallsF P f (pre ++ ds ++ caps) res) ∨ (ArgsSV (Lasting S.M) (args.toList.map S.ev) ds ∧ ACalls P f (pre ++ ds ++ caps) res)) (hS : (resEff d S res).app S = S') (k : Chain cx ops rest S' K) :
    Chain cx ops (⟨some d, .call { callee := .value f', args := args, argTypes := ts }, ty, p, af, gd⟩ :: rest) S K := by
  subst hP; subst hn; subst hS
  refine ⟨_, gstep_of hgd ?_, k⟩
  have hr : S.applyRes cx.n (some d) res = some ((resEff d S res).app S) := resEff_app hd fun _ _ => rfl
  rcases hc with ⟨h1, h2⟩ | ⟨h1, h2⟩
  · exact .callF f' args ts f pre caps ds res rfl hf h1 h2 hr
  · exact .callA f' args ts f pre caps ds res rfl hf h1 h2 hr

/-! regions that draw -/
theorem d_out {S S' : St} {o : Oper} {out : Out} {e : Eff} (hP : cx.P = P) (hn : cx.n = N) (hgd : GOk ops S o.guard) (h : outOf P S o.op = some out) (he : effOf N S o.dst out = some e) (hR : opTags S o.op ++ outTags o.dst out = R) (hS : e.app S = S') (k : DChain cx ops rest (⟨R, e⟩ :: its) S' KD) : DChain cx ops (o :: rest) its S KD := by
  subst hP; subst hn; subst hS; subst hR
  obtain ⟨e1, e2, e3⟩ := eff_dst he
  refine ⟨⟨_, e⟩, ⟨e1, fun p hp => List.mem_append_right _ (e2 p hp), fun hk => by simpa using fun _ => e3 hk⟩, ?_, k⟩
  cases hgu : o.guard with
  | none => exact gstepL_out hgu h he
  | some q =>
    obtain ⟨j, want⟩ := q
    rw [hgu] at hgd
    obtain ⟨s, h1, h2⟩ := hgd
    exact gstepL_guard hgu h1 h2 h he
theorem d_skpW {S S' : St} {o : Oper} (hgd : o.guard = some (j, want)) (hj : slotOf ops j = some s) (hb : NotW want (S.F s)) (hS : (⟨o.dst, .tup [], false, []⟩ : Eff).app S = S') (k : DChain cx ops rest (⟨[], ⟨o.dst, .tup [], false, []⟩⟩ :: its) S' KD) : DChain cx ops (o :: rest) its S KD := by
  subst hS
  exact ⟨⟨[], _⟩, ⟨rfl, fun p hp => by simp at hp, fun hk => by simp at hk⟩, gstepL_skip hgd hj hb, k⟩
theorem d_skp {S S' : St} {o : Oper} (hgd : o.guard = some (j, want)) (hj : slotOf ops j = some s) (hb : S.F s = .dv (.bool c)) (hne : c ≠ want) (hS : (⟨o.dst, .tup [], false, []⟩ : Eff).app S = S') (k : DChain cx ops rest (⟨[], ⟨o.dst, .tup [], false, []⟩⟩ :: its) S' KD) : DChain cx ops (o :: rest) its S KD :=
  d_skpW hgd hj (by rw [hb]; exact .ne hne) hS k
theorem d_call {S S' : St} (hP : cx.P = P) (hn : cx.n = N) (hd : d < N) (hgd : GOk ops S gd) {f' : Operand} {args : Array Operand} {ts : Array TypeId} {f : FuncId} {pre ds caps : List DV} (hf : S.ev f' = .dv (.fn f pre caps)) {res : Res}
    (hc : (ArgsSV (Borrow (rst R S.M)) (args.toList.map S.ev) ds ∧ ACallsF P f (pre ++ ds ++ caps) res) ∨ (ArgsSV (Lasting (rst R S.M)) (args.toList.map S.ev) ds ∧ ACalls P f (pre ++ ds ++ caps) res)) (hS : (resEff d S res).app S = S')
    (k : DChain cx ops rest (⟨R ++ resTags d res, resEff d S res⟩ :: its) S' KD) : DChain cx ops (⟨some d, .call { callee := .value f', args := args, argTypes := ts }, ty, p, af, gd⟩ :: rest) its S KD := by
  subst hP; subst hn; subst hS
  refine ⟨⟨_, _⟩, ⟨rfl, fun p hp => List.mem_append_right _ ?_, fun hk => by simp [resEff] at hk⟩, ?_, k⟩
  · cases res with
    | one r => exact impMs_tags d [r] 0 _ p hp
    | many rs => exact impMs_tags d rs 0 _ p hp
  · intro T h1 h2
    have hst := stepL_call (cx := cx) (ops := ops) (o := ⟨some d, .call { callee := .value f', args := args, argTypes := ts }, ty, p, af, gd⟩) rfl hd rfl hf hc T h1 h2
    unfold GStep
    cases gd with
    | none => exact hst
    | some q =>
      obtain ⟨j, want⟩ := q
      obtain ⟨s, h3, h4⟩ := hgd
      refine ⟨s, h3, .inl ⟨?_, hst⟩⟩
      rw [h1 s (looks_guard rfl h3)]
      exact h4

theorem d_val (hP : cx.P = P) (hn : cx.n = N) (hd : d < N) (hgd : GOk ops ⟨lk l, mkM m⟩ gd) (h : outOf P ⟨lk l, mkM m⟩ op = some (.val r)) (hR : opTags ⟨lk l, mkM m⟩ op = R) (k : DChain cx ops rest (⟨R ++ [], ⟨some d, r, false, []⟩⟩ :: its) ⟨lk ((d, r) :: l), mkM m⟩ KD) : DChain cx ops (⟨some d, op, ty, p, af, gd⟩ :: rest) its ⟨lk l, mkM m⟩ KD :=
  d_out hP hn hgd h (eff_val hd _) (by simp only [hR, outTags]) app_val k
theorem d_pt (hP : cx.P = P) (hn : cx.n = N) (hd : d < N) (hgd : GOk ops ⟨lk l, mkM m⟩ gd) (h : outOf P ⟨lk l, mkM m⟩ op = some (.mk blk k)) (hb : blk.row = false) (hg : (mkM m d).1 = g) (hR : opTags ⟨lk l, mkM m⟩ op = R) (kk : DChain cx ops rest (⟨R ++ [d], ⟨some d, .pt d (g + 1) 0, false, [(d, g + 1, some blk)]⟩⟩ :: its) ⟨lk ((d, .pt d (g + 1) 0) :: l), mkM ((d, g + 1, some blk) :: m)⟩ KD) :
    DChain cx ops (⟨some d, op, ty, p, af, gd⟩ :: rest) its ⟨lk l, mkM m⟩ KD := d_out hP hn hgd h (eff_pt hd hb hg) (by simp only [hR, outTags, Option.toList]) app_one kk
theorem d_row (hP : cx.P = P) (hn : cx.n = N) (hd : d < N) (hgd : GOk ops ⟨lk l, mkM m⟩ gd) (h : outOf P ⟨lk l, mkM m⟩ op = some (.mk blk k)) (hb : blk.row = true) (hg : (mkM m d).1 = g) (hR : opTags ⟨lk l, mkM m⟩ op = R) (kk : DChain cx ops rest (⟨R ++ [d], ⟨some d, .sl d (g + 1) 0 k, false, [(d, g + 1, some blk)]⟩⟩ :: its) ⟨lk ((d, .sl d (g + 1) 0 k) :: l), mkM ((d, g + 1, some blk) :: m)⟩ KD) :
    DChain cx ops (⟨some d, op, ty, p, af, gd⟩ :: rest) its ⟨lk l, mkM m⟩ KD := d_out hP hn hgd h (eff_row hd hb hg) (by simp only [hR, outTags, Option.toList]) app_one kk
theorem d_app0 (hP : cx.P = P) (hn : cx.n = N) (hd : d < N) (hgd : GOk ops ⟨lk l, mkM m⟩ gd) (h : outOf P ⟨lk l, mkM m⟩ op = some (.app none blk k)) (hg : (mkM m d).1 = g) (hR : opTags ⟨lk l, mkM m⟩ op = R) (kk : DChain cx ops rest (⟨R ++ [d], ⟨some d, .sl d (g + 1) 0 k, false, [(d, g + 1, some blk)]⟩⟩ :: its) ⟨lk ((d, .sl d (g + 1) 0 k) :: l), mkM ((d, g + 1, some blk) :: m)⟩ KD) :
    DChain cx ops (⟨some d, op, ty, p, af, gd⟩ :: rest) its ⟨lk l, mkM m⟩ KD := d_out hP hn hgd h (eff_app0 hd hg) (by simp only [hR, outTags, Option.toList, List.append_nil]) app_one kk
theorem d_app1g (hP : cx.P = P) (hn : cx.n = N) (hd : d < N) (hgd : GOk ops ⟨lk l, mkM m⟩ gd) (h : outOf P ⟨lk l, mkM m⟩ op = some (.app (some t) blk k)) (hg : (mkM m d).1 = g) (ht : mkM m t = (gt, some b)) (hb : OwS b.st) (hR : opTags ⟨lk l, mkM m⟩ op = R)
    (kk : DChain cx ops rest (⟨R ++ [d, t], ⟨some d, .sl d (g + 1) 0 k, false, [(t, gt, some { b with st := 2 }), (d, g + 1, some blk)]⟩⟩ :: its) ⟨lk ((d, .sl d (g + 1) 0 k) :: l), mkM ((d, g + 1, some blk) :: (t, gt, some { b with st := 2 }) :: m)⟩ KD) :
    DChain cx ops (⟨some d, op, ty, p, af, gd⟩ :: rest) its ⟨lk l, mkM m⟩ KD := d_out hP hn hgd h (eff_app1 hd hg ht hb) (by simp only [hR, outTags, Option.toList, List.cons_append, List.nil_append]) app_two kk
theorem d_app1 (hP : cx.P = P) (hn : cx.n = N) (hd : d < N) (hgd : GOk ops ⟨lk l, mkM m⟩ gd) (h : outOf P ⟨lk l, mkM m⟩ op = some (.app (some t) blk k)) (hg : (mkM m d).1 = g) (ht : mkM m t = (gt, some b)) (hb : b.st = 0) (hR : opTags ⟨lk l, mkM m⟩ op = R)
    (kk : DChain cx ops rest (⟨R ++ [d, t], ⟨some d, .sl d (g + 1) 0 k, false, [(t, gt, some { b with st := 2 }), (d, g + 1, some blk)]⟩⟩ :: its) ⟨lk ((d, .sl d (g + 1) 0 k) :: l), mkM ((d, g + 1, some blk) :: (t, gt, some { b with st := 2 }) :: m)⟩ KD) :
    DChain cx ops (⟨some d, op, ty, p, af, gd⟩ :: rest) its ⟨lk l, mkM m⟩ KD := d_app1g hP hn hd hgd h hg ht (.inl hb) hR kk
theorem d_putg (hP : cx.P = P) (hn : cx.n = N) (hgd : GOk ops ⟨lk l, mkM m⟩ gd) (h : outOf P ⟨lk l, mkM m⟩ op = some (.put t blk)) (ht : mkM m t = (gt, some b)) (hb : OwS b.st) (hv : nvL m = m') (hR : opTags ⟨lk l, mkM m⟩ op = R)
    (kk : DChain cx ops rest (⟨R ++ [t], ⟨none, .dead, true, [(t, gt, some blk)]⟩⟩ :: its) ⟨lk l, mkM ((t, gt, some blk) :: m')⟩ KD) : DChain cx ops (⟨none, op, ty, p, af, gd⟩ :: rest) its ⟨lk l, mkM m⟩ KD := d_out hP hn hgd h (eff_put ht hb) (by simp only [hR, outTags]) (app_put hv) kk
theorem d_put (hP : cx.P = P) (hn : cx.n = N) (hgd : GOk ops ⟨lk l, mkM m⟩ gd) (h : outOf P ⟨lk l, mkM m⟩ op = some (.put t blk)) (ht : mkM m t = (gt, some b)) (hb : b.st = 0) (hv : nvL m = m') (hR : opTags ⟨lk l, mkM m⟩ op = R)
    (kk : DChain cx ops rest (⟨R ++ [t], ⟨none, .dead, true, [(t, gt, some blk)]⟩⟩ :: its) ⟨lk l, mkM ((t, gt, some blk) :: m')⟩ KD) : DChain cx ops (⟨none, op, ty, p, af, gd⟩ :: rest) its ⟨lk l, mkM m⟩ KD := d_putg hP hn hgd h ht (.inl hb) hv hR kk
theorem d_split (hP : cx.P = P) (hn : cx.n = N) (hd : d < N) (hgd : GOk ops ⟨lk l, mkM m⟩ gd) (h : outOf P ⟨lk l, mkM m⟩ op = some (.val (.dv (.bool c)))) (hR : opTags ⟨lk l, mkM m⟩ op = R)
    (k1 : c = true → DChain cx ops rest (⟨R ++ [], ⟨some d, .dv (.bool true), false, []⟩⟩ :: its) ⟨lk ((d, .dv (.bool true)) :: l), mkM m⟩ KD) (k2 : c = false → DChain cx ops rest (⟨R ++ [], ⟨some d, .dv (.bool false), false, []⟩⟩ :: its) ⟨lk ((d, .dv (.bool false)) :: l), mkM m⟩ KD) :
    DChain cx ops (⟨some d, op, ty, p, af, gd⟩ :: rest) its ⟨lk l, mkM m⟩ KD :=
  d_val hP hn hd hgd h hR (by cases c with | true => exact k1 rfl | false => exact k2 rfl)
theorem d_skip (hj : slotOf ops j = some s) (hb : lk l s = .dv (.bool c)) (hne : c ≠ want) (k : DChain cx ops rest (⟨[], ⟨some d, .tup [], false, []⟩⟩ :: its) ⟨lk ((d, .tup []) :: l), mkM m⟩ KD) : DChain cx ops (⟨some d, op, ty, p, af, some (j, want)⟩ :: rest) its ⟨lk l, mkM m⟩ KD :=
  d_skp rfl hj hb hne app_val k
theorem d_skipW (hj : slotOf ops j = some s) (hb : NotW want (lk l s)) (k : DChain cx ops rest (⟨[], ⟨some d, .tup [], false, []⟩⟩ :: its) ⟨lk ((d, .tup []) :: l), mkM m⟩ KD) : DChain cx ops (⟨some d, op, ty, p, af, some (j, want)⟩ :: rest) its ⟨lk l, mkM m⟩ KD :=
  d_skpW rfl hj hb app_val k

theorem awp_reg (hg : cx.Good) {id : Nat} {lo : List Oper} {K : Exit → St → Prop} {S : St} (h : Chain cx lo.toArray lo S fun S' => K .normal S') : AWp cx (.region id lo.toArray false) K S := awp_region hg h
theorem awp_drw (hg : cx.Good) (hP : cx.P = P) (hm : P.follows .mixedOrders = true) {id : Nat} {lo : List Oper} {K : Exit → St → Prop} {S : St} (hb : backB .any lo 0 = true)
    (h : DChain cx lo.toArray lo [] S fun its S' => freeB .any lo.toArray its (ancs .any lo []) = true ∧ K .normal S') : AWp cx (.region id lo.toArray true) K S := by
  subst hP
  exact awp_draw_chain hg hm hb h

end
end Go.Ab
