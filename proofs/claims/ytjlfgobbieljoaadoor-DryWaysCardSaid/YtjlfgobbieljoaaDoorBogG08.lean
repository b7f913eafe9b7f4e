/- Ab22, Ab23, Ab24. -/
import Derived.Test.YtjlfgobbieljoaaDoorBogG07
set_option linter.all false
set_option linter.unusedVariables false
namespace Go.Ab
open Go.RowKit
def GOk (ops : Array Oper) (S : St) : Option (Nat × Bool) → Prop
  | none => True
  | some (j, want) => ∃ s, slotOf ops j = some s ∧ S.F s = .dv (.bool want)
section
variable {cx : Cx} {P : Program} {N : Nat} {ops : Array Oper} {rest : List Oper} {l : List (Nat × SV)} {m m' : List (Nat × Nat × Option Blk)} {K : St → Prop} {KD : List It → St → Prop} {its : List It}
  {d g k t gt j s : Nat} {op : Op} {ty : TypeId} {p : String} {af : Array Edge} {r : SV} {blk b : Blk} {R : List Nat} {want c : Bool} {gd : Option (Nat × Bool)}
theorem eff_val (hd : d < N) (S : St) : effOf N S (some d) (.val r) = some ⟨some d, r, false, []⟩ := by simp [effOf, hd]
theorem app_val : (⟨some d, r, false, []⟩ : Eff).app ⟨lk l, mkM m⟩ = ⟨lk ((d, r) :: l), mkM m⟩ := by simp [Eff.app, setM, upd_lk]
theorem eff_pt (hd : d < N) (hb : blk.row = false) (hg : (mkM m d).1 = g) : effOf N ⟨lk l, mkM m⟩ (some d) (.mk blk k) = some ⟨some d, .pt d (g + 1) 0, false, [(d, g + 1, some blk)]⟩ := by simp [effOf, hd, hb, hg]
theorem eff_row (hd : d < N) (hb : blk.row = true) (hg : (mkM m d).1 = g) : effOf N ⟨lk l, mkM m⟩ (some d) (.mk blk k) = some ⟨some d, .sl d (g + 1) 0 k, false, [(d, g + 1, some blk)]⟩ := by simp [effOf, hd, hb, hg]
theorem app_one {v : SV} : (⟨some d, v, false, [(t, g, some blk)]⟩ : Eff).app ⟨lk l, mkM m⟩ = ⟨lk ((d, v) :: l), mkM ((t, g, some blk) :: m)⟩ := by simp [Eff.app, setM, upd_lk, upd_mkM]
theorem eff_app0 (hd : d < N) (hg : (mkM m d).1 = g) : effOf N ⟨lk l, mkM m⟩ (some d) (.app none blk k) = some ⟨some d, .sl d (g + 1) 0 k, false, [(d, g + 1, some blk)]⟩ := by simp [effOf, hd, hg]
theorem eff_app1 (hd : d < N) (hg : (mkM m d).1 = g) (ht : mkM m t = (gt, some b)) (hb : OwS b.st) : effOf N ⟨lk l, mkM m⟩ (some d) (.app (some t) blk k) = some ⟨some d, .sl d (g + 1) 0 k, false, [(t, gt, some { b with st := 2 }), (d, g + 1, some blk)]⟩ := by simp [effOf, hd, hg, ht, hb]
theorem app_two {v : SV} {b1 b2 : Blk} {t1 g1 t2 g2 : Nat} : (⟨some d, v, false, [(t1, g1, some b1), (t2, g2, some b2)]⟩ : Eff).app ⟨lk l, mkM m⟩ = ⟨lk ((d, v) :: l), mkM ((t2, g2, some b2) :: (t1, g1, some b1) :: m)⟩ := by simp [Eff.app, setM, upd_lk, upd_mkM]
theorem eff_put (ht : mkM m t = (gt, some b)) (hb : OwS b.st) : effOf N ⟨lk l, mkM m⟩ none (.put t blk) = some ⟨none, .dead, true, [(t, gt, some blk)]⟩ := by simp [effOf, ht, hb]
theorem app_put (hv : nvL m = m') : (⟨none, .dead, true, [(t, gt, some blk)]⟩ : Eff).app ⟨lk l, mkM m⟩ = ⟨lk l, mkM ((t, gt, some blk) :: m')⟩ := by simp [Eff.app, setM, upd_mkM, noViews_mkM, hv]
theorem gstep_of {S S' : St} {o : Oper} (hgd : GOk ops S o.guard) (h : Step cx S o S') : GStep cx ops S o S' := by
  unfold GStep
  unfold GOk at hgd
  split
  · exact h
  · rename_i j want e
    rw [e] at hgd
    obtain ⟨s, h1, h2⟩ := hgd
    exact ⟨s, h1, .inl ⟨h2, h⟩⟩
theorem chain_out {S S' : St} {o : Oper} {out : Out} {e : Eff} (hP : cx.P = P) (hn : cx.n = N) (hgd : GOk ops S o.guard) (h : outOf P S o.op = some out) (he : effOf N S o.dst out = some e) (hS : e.app S = S') (k : Chain cx ops rest S' K) : Chain cx ops (o :: rest) S K := by
  subst hP; subst hn; subst hS
  exact ⟨_, gstep_of hgd (.out out h (apply_eff he)), k⟩
theorem c_val (hP : cx.P = P) (hn : cx.n = N) (hd : d < N) (hgd : GOk ops ⟨lk l, mkM m⟩ gd) (h : outOf P ⟨lk l, mkM m⟩ op = some (.val r)) (k : Chain cx ops rest ⟨lk ((d, r) :: l), mkM m⟩ K) : Chain cx ops (⟨some d, op, ty, p, af, gd⟩ :: rest) ⟨lk l, mkM m⟩ K :=
  chain_out hP hn hgd h (eff_val hd _) app_val k
theorem c_pt (hP : cx.P = P) (hn : cx.n = N) (hd : d < N) (hgd : GOk ops ⟨lk l, mkM m⟩ gd) (h : outOf P ⟨lk l, mkM m⟩ op = some (.mk blk k)) (hb : blk.row = false) (hg : (mkM m d).1 = g) (kk : Chain cx ops rest ⟨lk ((d, .pt d (g + 1) 0) :: l), mkM ((d, g + 1, some blk) :: m)⟩ K) :
    Chain cx ops (⟨some d, op, ty, p, af, gd⟩ :: rest) ⟨lk l, mkM m⟩ K := chain_out hP hn hgd h (eff_pt hd hb hg) app_one kk
theorem c_row (hP : cx.P = P) (hn : cx.n = N) (hd : d < N) (hgd : GOk ops ⟨lk l, mkM m⟩ gd) (h : outOf P ⟨lk l, mkM m⟩ op = some (.mk blk k)) (hb : blk.row = true) (hg : (mkM m d).1 = g) (kk : Chain cx ops rest ⟨lk ((d, .sl d (g + 1) 0 k) :: l), mkM ((d, g + 1, some blk) :: m)⟩ K) :
    Chain cx ops (⟨some d, op, ty, p, af, gd⟩ :: rest) ⟨lk l, mkM m⟩ K := chain_out hP hn hgd h (eff_row hd hb hg) app_one kk
theorem c_app0 (hP : cx.P = P) (hn : cx.n = N) (hd : d < N) (hgd : GOk ops ⟨lk l, mkM m⟩ gd) (h : outOf P ⟨lk l, mkM m⟩ op = some (.app none blk k)) (hg : (mkM m d).1 = g) (kk : Chain cx ops rest ⟨lk ((d, .sl d (g + 1) 0 k) :: l), mkM ((d, g + 1, some blk) :: m)⟩ K) :
    Chain cx ops (⟨some d, op, ty, p, af, gd⟩ :: rest) ⟨lk l, mkM m⟩ K := chain_out hP hn hgd h (eff_app0 hd hg) app_one kk
theorem c_app1g (hP : cx.P = P) (hn : cx.n = N) (hd : d < N) (hgd : GOk ops ⟨lk l, mkM m⟩ gd) (h : outOf P ⟨lk l, mkM m⟩ op = some (.app (some t) blk k)) (hg : (mkM m d).1 = g) (ht : mkM m t = (gt, some b)) (hb : OwS b.st)
    (kk : Chain cx ops rest ⟨lk ((d, .sl d (g + 1) 0 k) :: l), mkM ((d, g + 1, some blk) :: (t, gt, some { b with st := 2 }) :: m)⟩ K) :
    Chain cx ops (⟨some d, op, ty, p, af, gd⟩ :: rest) ⟨lk l, mkM m⟩ K := chain_out hP hn hgd h (eff_app1 hd hg ht hb) app_two kk
theorem c_app1 (hP : cx.P = P) (hn : cx.n = N) (hd : d < N) (hgd : GOk ops ⟨lk l, mkM m⟩ gd) (h : outOf P ⟨lk l, mkM m⟩ op = some (.app (some t) blk k)) (hg : (mkM m d).1 = g) (ht : mkM m t = (gt, some b)) (hb : b.st = 0)
    (kk : Chain cx ops rest ⟨lk ((d, .sl d (g + 1) 0 k) :: l), mkM ((d, g + 1, some blk) :: (t, gt, some { b with st := 2 }) :: m)⟩ K) :
    Chain cx ops (⟨some d, op, ty, p, af, gd⟩ :: rest) ⟨lk l, mkM m⟩ K := c_app1g hP hn hd hgd h hg ht (.inl hb) kk
theorem c_putg (hP : cx.P = P) (hn : cx.n = N) (hgd : GOk ops ⟨lk l, mkM m⟩ gd) (h : outOf P ⟨lk l, mkM m⟩ op = some (.put t blk)) (ht : mkM m t = (gt, some b)) (hb : OwS b.st) (hv : nvL m = m')
    (kk : Chain cx ops rest ⟨lk l, mkM ((t, gt, some blk) :: m')⟩ K) : Chain cx ops (⟨none, op, ty, p, af, gd⟩ :: rest) ⟨lk l, mkM m⟩ K := chain_out hP hn hgd h (eff_put ht hb) (app_put hv) kk
theorem c_put (hP : cx.P = P) (hn : cx.n = N) (hgd : GOk ops ⟨lk l, mkM m⟩ gd) (h : outOf P ⟨lk l, mkM m⟩ op = some (.put t blk)) (ht : mkM m t = (gt, some b)) (hb : b.st = 0) (hv : nvL m = m')
    (kk : Chain cx ops rest ⟨lk l, mkM ((t, gt, some blk) :: m')⟩ K) : Chain cx ops (⟨none, op, ty, p, af, gd⟩ :: rest) ⟨lk l, mkM m⟩ K := c_putg hP hn hgd h ht (.inl hb) hv kk
theorem c_split (hP : cx.P = P) (hn : cx.n = N) (hd : d < N) (hgd : GOk ops ⟨lk l, mkM m⟩ gd) (h : outOf P ⟨lk l, mkM m⟩ op = some (.val (.dv (.bool c)))) (k1 : c = true → Chain cx ops rest ⟨lk ((d, .dv (.bool true)) :: l), mkM m⟩ K) (k2 : c = false → Chain cx ops rest ⟨lk ((d, .dv (.bool false)) :: l), mkM m⟩ K) :
    Chain cx ops (⟨some d, op, ty, p, af, gd⟩ :: rest) ⟨lk l, mkM m⟩ K :=
  c_val hP hn hd hgd h (by cases c with | true => exact k1 rfl | false => exact k2 rfl)
theorem c_skipW (hj : slotOf ops j = some s) (hb : NotW want (lk l s)) (k : Chain cx ops rest ⟨lk ((d, .tup []) :: l), mkM m⟩ K) : Chain cx ops (⟨some d, op, ty, p, af, some (j, want)⟩ :: rest) ⟨lk l, mkM m⟩ K := by
  refine ⟨_, ?_, k⟩
  unfold GStep
  refine ⟨s, hj, .inr ⟨hb, ?_⟩⟩
  simp only [St.skip, upd_lk]
theorem c_skip (hj : slotOf ops j = some s) (hb : lk l s = .dv (.bool c)) (hne : c ≠ want) (k : Chain cx ops rest ⟨lk ((d, .tup []) :: l), mkM m⟩ K) : Chain cx ops (⟨some d, op, ty, p, af, some (j, want)⟩ :: rest) ⟨lk l, mkM m⟩ K :=
  c_skipW hj (by show NotW want (lk l s); rw [hb]; exact .ne hne) k
def frzL (m : List (Nat × Nat × Option Blk)) : List Nat → Option (List (Nat × Nat × Option Blk))
  | [] => some m
  | t :: ts => match mkM m t with
    | (g, some b) => if OwS b.st ∨ b.st = 1 then frzL ((t, g, some { b with st := 1 }) :: m) ts else none
    | _ => none
theorem frz_mkM : ∀ {ts : List Nat} {m m' : List (Nat × Nat × Option Blk)}, frzL m ts = some m' → frz (mkM m) ts = some (mkM m')
  | [], m, m', h => by simp only [frzL, Option.some.injEq] at h; subst h; rfl
  | t :: ts, m, m', h => by
    simp only [frzL] at h
    simp only [frz]
    split at h
    · rename_i g b e
      split at h
      · rename_i hb
        simp only [e, hb, if_true, upd_mkM]
        exact frz_mkM h
      · cases h
    · cases h
theorem c_fn {f : FuncId} {pre caps : Array Operand} {ps cs : List DV} {ts us : List Nat} (hP : cx.P = P) (hn : cx.n = N) (hd : d < N) (hgd : GOk ops ⟨lk l, mkM m⟩ gd) (h1 : capsSV (pre.toList.map (St.look ⟨lk l, mkM m⟩)) = some (ps, ts)) (h2 : capsSV (caps.toList.map (St.look ⟨lk l, mkM m⟩)) = some (cs, us))
    (h3 : frzL m (ts ++ us) = some m') (k : Chain cx ops rest ⟨lk ((d, .dv (.fn f ps cs)) :: l), mkM m'⟩ K) : Chain cx ops (⟨some d, .makeFunc (.func f) pre caps, ty, p, af, gd⟩ :: rest) ⟨lk l, mkM m⟩ K := by
  subst hn
  refine ⟨_, gstep_of hgd (.fn f pre caps rfl ?_), k⟩
  simp only [St.applyFn, h1, h2, frz_mkM h3, hd, if_true, upd_lk]
theorem chain_call (hP : cx.P = P) (hn : cx.n = N) (hd : d < N) {f' : Operand} {args : Array Operand} {ts : Array TypeId} {f : FuncId} {pre ds caps : List DV} {S S' : St} (hgd : GOk ops S gd) (hf : S.ev f' = .dv (.fn f pre caps)) {res : Res}
    (hc : (ArgsSV (Borrow S.M) (args.toList.map S.ev) ds ∧ ACallsF P f (pre ++ ds ++ caps) res) ∨ (ArgsSV (Lasting S.M) (args.toList.map S.ev) ds ∧ ACalls P f (pre ++ ds ++ caps) res)) (hS : (resEff d S res).app S = S') (k : Chain cx ops rest S' K) :
    Chain cx ops (⟨some d, .call { callee := .value f', args := args, argTypes := ts }, ty, p, af, gd⟩ :: rest) S K := by
  subst hP; subst hn; subst hS
  refine ⟨_, gstep_of hgd ?_, k⟩
  have hr : S.applyRes cx.n (some d) res = some ((resEff d S res).app S) := resEff_app hd fun _ _ => rfl
  rcases hc with ⟨h1, h2⟩ | ⟨h1, h2⟩
  · exact .callF f' args ts f pre caps ds res rfl hf h1 h2 hr
  · exact .callA f' args ts f pre caps ds res rfl hf h1 h2 hr
theorem d_out {S S' : St} {o : Oper} {out : Out} {e : Eff} (hP : cx.P = P) (hn : cx.n = N) (hgd : GOk ops S o.guard) (h : outOf P S o.op = some out) (he : effOf N S o.dst out = some e) (hR : opTags S o.op ++ outTags o.dst out = R) (hS : e.app S = S') (k : DChain cx ops rest (⟨R, e⟩ :: its) S' KD) : DChain cx ops (o :: rest) its S KD := by
  subst hP; subst hn; subst hS; subst hR
  obtain ⟨e1, e2, e3⟩ := eff_dst he
  refine ⟨⟨_, e⟩, ⟨e1, fun p hp => List.mem_append_right _ (e2 p hp), fun hk => by simpa using fun _ => e3 hk⟩, ?_, k⟩
  cases hgu : o.guard with
  | none => exact gstepL_out hgu h he
  | some q =>
    obtain ⟨j, want⟩ := q
    rw [hgu] at hgd
    obtain ⟨s, h1, h2⟩ := hgd
    exact gstepL_guard hgu h1 h2 h he
theorem d_skpW {S S' : St} {o : Oper} (hgd : o.guard = some (j, want)) (hj : slotOf ops j = some s) (hb : NotW want (S.F s)) (hS : (⟨o.dst, .tup [], false, []⟩ : Eff).app S = S') (k : DChain cx ops rest (⟨[], ⟨o.dst, .tup [], false, []⟩⟩ :: its) S' KD) : DChain cx ops (o :: rest) its S KD := by
  subst hS
  exact ⟨⟨[], _⟩, ⟨rfl, fun p hp => by simp at hp, fun hk => by simp at hk⟩, gstepL_skip hgd hj hb, k⟩
theorem d_skp {S S' : St} {o : Oper} (hgd : o.guard = some (j, want)) (hj : slotOf ops j = some s) (hb : S.F s = .dv (.bool c)) (hne : c ≠ want) (hS : (⟨o.dst, .tup [], false, []⟩ : Eff).app S = S') (k : DChain cx ops rest (⟨[], ⟨o.dst, .tup [], false, []⟩⟩ :: its) S' KD) : DChain cx ops (o :: rest) its S KD :=
  d_skpW hgd hj (by rw [hb]; exact .ne hne) hS k
theorem d_call {S S' : St} (hP : cx.P = P) (hn : cx.n = N) (hd : d < N) (hgd : GOk ops S gd) {f' : Operand} {args : Array Operand} {ts : Array TypeId} {f : FuncId} {pre ds caps : List DV} (hf : S.ev f' = .dv (.fn f pre caps)) {res : Res}
    (hc : (ArgsSV (Borrow (rst R S.M)) (args.toList.map S.ev) ds ∧ ACallsF P f (pre ++ ds ++ caps) res) ∨ (ArgsSV (Lasting (rst R S.M)) (args.toList.map S.ev) ds ∧ ACalls P f (pre ++ ds ++ caps) res)) (hS : (resEff d S res).app S = S')
    (k : DChain cx ops rest (⟨R ++ resTags d res, resEff d S res⟩ :: its) S' KD) : DChain cx ops (⟨some d, .call { callee := .value f', args := args, argTypes := ts }, ty, p, af, gd⟩ :: rest) its S KD := by
  subst hP; subst hn; subst hS
  refine ⟨⟨_, _⟩, ⟨rfl, fun p hp => List.mem_append_right _ ?_, fun hk => by simp [resEff] at hk⟩, ?_, k⟩
  · cases res with
    | one r => exact impMs_tags d [r] 0 _ p hp
    | many rs => exact impMs_tags d rs 0 _ p hp
  · intro T h1 h2
    have hst := stepL_call (cx := cx) (ops := ops) (o := ⟨some d, .call { callee := .value f', args := args, argTypes := ts }, ty, p, af, gd⟩) rfl hd rfl hf hc T h1 h2
    unfold GStep
    cases gd with
    | none => exact hst
    | some q =>
      obtain ⟨j, want⟩ := q
      obtain ⟨s, h3, h4⟩ := hgd
      refine ⟨s, h3, .inl ⟨?_, hst⟩⟩
      rw [h1 s (looks_guard rfl h3)]
      exact h4
theorem d_val (hP : cx.P = P) (hn : cx.n = N) (hd : d < N) (hgd : GOk ops ⟨lk l, mkM m⟩ gd) (h : outOf P ⟨lk l, mkM m⟩ op = some (.val r)) (hR : opTags ⟨lk l, mkM m⟩ op = R) (k : DChain cx ops rest (⟨R ++ [], ⟨some d, r, false, []⟩⟩ :: its) ⟨lk ((d, r) :: l), mkM m⟩ KD) : DChain cx ops (⟨some d, op, ty, p, af, gd⟩ :: rest) its ⟨lk l, mkM m⟩ KD :=
  d_out hP hn hgd h (eff_val hd _) (by simp only [hR, outTags]) app_val k
theorem d_row (hP : cx.P = P) (hn : cx.n = N) (hd : d < N) (hgd : GOk ops ⟨lk l, mkM m⟩ gd) (h : outOf P ⟨lk l, mkM m⟩ op = some (.mk blk k)) (hb : blk.row = true) (hg : (mkM m d).1 = g) (hR : opTags ⟨lk l, mkM m⟩ op = R) (kk : DChain cx ops rest (⟨R ++ [d], ⟨some d, .sl d (g + 1) 0 k, false, [(d, g + 1, some blk)]⟩⟩ :: its) ⟨lk ((d, .sl d (g + 1) 0 k) :: l), mkM ((d, g + 1, some blk) :: m)⟩ KD) :
    DChain cx ops (⟨some d, op, ty, p, af, gd⟩ :: rest) its ⟨lk l, mkM m⟩ KD := d_out hP hn hgd h (eff_row hd hb hg) (by simp only [hR, outTags, Option.toList]) app_one kk
theorem d_app0 (hP : cx.P = P) (hn : cx.n = N) (hd : d < N) (hgd : GOk ops ⟨lk l, mkM m⟩ gd) (h : outOf P ⟨lk l, mkM m⟩ op = some (.app none blk k)) (hg : (mkM m d).1 = g) (hR : opTags ⟨lk l, mkM m⟩ op = R) (kk : DChain cx ops rest (⟨R ++ [d], ⟨some d, .sl d (g + 1) 0 k, false, [(d, g + 1, some blk)]⟩⟩ :: its) ⟨lk ((d, .sl d (g + 1) 0 k) :: l), mkM ((d, g + 1, some blk) :: m)⟩ KD) :
    DChain cx ops (⟨some d, op, ty, p, af, gd⟩ :: rest) its ⟨lk l, mkM m⟩ KD := d_out hP hn hgd h (eff_app0 hd hg) (by simp only [hR, outTags, Option.toList, List.append_nil]) app_one kk
theorem d_app1g (hP : cx.P = P) (hn : cx.n = N) (hd : d < N) (hgd : GOk ops ⟨lk l, mkM m⟩ gd) (h : outOf P ⟨lk l, mkM m⟩ op = some (.app (some t) blk k)) (hg : (mkM m d).1 = g) (ht : mkM m t = (gt, some b)) (hb : OwS b.st) (hR : opTags ⟨lk l, mkM m⟩ op = R)
    (kk : DChain cx ops rest (⟨R ++ [d, t], ⟨some d, .sl d (g + 1) 0 k, false, [(t, gt, some { b with st := 2 }), (d, g + 1, some blk)]⟩⟩ :: its) ⟨lk ((d, .sl d (g + 1) 0 k) :: l), mkM ((d, g + 1, some blk) :: (t, gt, some { b with st := 2 }) :: m)⟩ KD) :
    DChain cx ops (⟨some d, op, ty, p, af, gd⟩ :: rest) its ⟨lk l, mkM m⟩ KD := d_out hP hn hgd h (eff_app1 hd hg ht hb) (by simp only [hR, outTags, Option.toList, List.cons_append, List.nil_append]) app_two kk
theorem d_app1 (hP : cx.P = P) (hn : cx.n = N) (hd : d < N) (hgd : GOk ops ⟨lk l, mkM m⟩ gd) (h : outOf P ⟨lk l, mkM m⟩ op = some (.app (some t) blk k)) (hg : (mkM m d).1 = g) (ht : mkM m t = (gt, some b)) (hb : b.st = 0) (hR : opTags ⟨lk l, mkM m⟩ op = R)
    (kk : DChain cx ops rest (⟨R ++ [d, t], ⟨some d, .sl d (g + 1) 0 k, false, [(t, gt, some { b with st := 2 }), (d, g + 1, some blk)]⟩⟩ :: its) ⟨lk ((d, .sl d (g + 1) 0 k) :: l), mkM ((d, g + 1, some blk) :: (t, gt, some { b with st := 2 }) :: m)⟩ KD) :
    DChain cx ops (⟨some d, op, ty, p, af, gd⟩ :: rest) its ⟨lk l, mkM m⟩ KD := d_app1g hP hn hd hgd h hg ht (.inl hb) hR kk
theorem d_putg (hP : cx.P = P) (hn : cx.n = N) (hgd : GOk ops ⟨lk l, mkM m⟩ gd) (h : outOf P ⟨lk l, mkM m⟩ op = some (.put t blk)) (ht : mkM m t = (gt, some b)) (hb : OwS b.st) (hv : nvL m = m') (hR : opTags ⟨lk l, mkM m⟩ op = R)
    (kk : DChain cx ops rest (⟨R ++ [t], ⟨none, .dead, true, [(t, gt, some blk)]⟩⟩ :: its) ⟨lk l, mkM ((t, gt, some blk) :: m')⟩ KD) : DChain cx ops (⟨none, op, ty, p, af, gd⟩ :: rest) its ⟨lk l, mkM m⟩ KD := d_out hP hn hgd h (eff_put ht hb) (by simp only [hR, outTags]) (app_put hv) kk
theorem d_split (hP : cx.P = P) (hn : cx.n = N) (hd : d < N) (hgd : GOk ops ⟨lk l, mkM m⟩ gd) (h : outOf P ⟨lk l, mkM m⟩ op = some (.val (.dv (.bool c)))) (hR : opTags ⟨lk l, mkM m⟩ op = R)
    (k1 : c = true → DChain cx ops rest (⟨R ++ [], ⟨some d, .dv (.bool true), false, []⟩⟩ :: its) ⟨lk ((d, .dv (.bool true)) :: l), mkM m⟩ KD) (k2 : c = false → DChain cx ops rest (⟨R ++ [], ⟨some d, .dv (.bool false), false, []⟩⟩ :: its) ⟨lk ((d, .dv (.bool false)) :: l), mkM m⟩ KD) :
    DChain cx ops (⟨some d, op, ty, p, af, gd⟩ :: rest) its ⟨lk l, mkM m⟩ KD :=
  d_val hP hn hd hgd h hR (by cases c with | true => exact k1 rfl | false => exact k2 rfl)
theorem d_skip (hj : slotOf ops j = some s) (hb : lk l s = .dv (.bool c)) (hne : c ≠ want) (k : DChain cx ops rest (⟨[], ⟨some d, .tup [], false, []⟩⟩ :: its) ⟨lk ((d, .tup []) :: l), mkM m⟩ KD) : DChain cx ops (⟨some d, op, ty, p, af, some (j, want)⟩ :: rest) its ⟨lk l, mkM m⟩ KD :=
  d_skp rfl hj hb hne app_val k
theorem awp_reg (hg : cx.Good) {id : Nat} {lo : List Oper} {K : Exit → St → Prop} {S : St} (h : Chain cx lo.toArray lo S fun S' => K .normal S') : AWp cx (.region id lo.toArray false) K S := awp_region hg h
theorem awp_drw (hg : cx.Good) (hP : cx.P = P) (hm : P.follows .mixedOrders = true) {id : Nat} {lo : List Oper} {K : Exit → St → Prop} {S : St} (hb : backB .any lo 0 = true)
    (h : DChain cx lo.toArray lo [] S fun its S' => freeB .any lo.toArray its (ancs .any lo []) = true ∧ K .normal S') : AWp cx (.region id lo.toArray true) K S := by
  subst hP
  exact awp_draw_chain hg hm hb h
end
end Go.Ab
set_option linter.unusedVariables false
namespace Go.Ab
open Go.RowKit
theorem wrap_i64 {n : Int} (h1 : -9223372036854775808 ≤ n) (h2 : n < 9223372036854775808) : IntKind.i64.wrap n = n := by
  have e : IntKind.i64.wrap n = (n + 9223372036854775808) % 18446744073709551616 - 9223372036854775808 := by
    simp only [IntKind.wrap, IntKind.bits, IntKind.signed]
    first
    | rfl
    | (simp; omega)
  rw [e]
  omega
section
variable {P : Program} {S : St} {x y z c : Operand} {t e ty ty' : TypeId} {k k' : IntKind} {a b n : Int} {r s : SV} {ob : Option Blk} {blk : Blk} {f off : Nat} {cs ds : List DV} {l : List DV} {tg g o len sz by' : Nat} {bb cc : Bool}
theorem e_move (h : S.ev x = r) : outOf P S (.move x) = some (.val r) := by simp only [outOf, h]
theorem e_assign (h : S.ev x = r) : outOf P S (.assign x) = some (.val r) := by simp only [outOf, h]
theorem e_pick (hc : S.ev c = .dv (.bool bb)) (hx : S.ev x = r) (hy : S.ev y = s) {q : SV} (hq : pickSV bb r s = q) : outOf P S (.pick c x y) = some (.val q) := by simp only [outOf, hc, hx, hy, hq]
theorem e_bin {op : BinOp} {d : DV} (hx : S.ev x = .dv (.int k a)) (hy : S.ev y = .dv (.int k b)) (hop : op ≠ .shl ∧ op ≠ .shr) (h : intBin op k a b = some d) : outOf P S (.binOp op t x y ty) = some (.val (.dv d)) := by
  simp only [outOf, hx, hy, binSV]
  cases op <;> simp_all
theorem e_add (hx : S.ev x = .dv (.int .i64 a)) (hy : S.ev y = .dv (.int .i64 b)) (h1 : -9223372036854775808 ≤ a + b) (h2 : a + b < 9223372036854775808) : outOf P S (.binOp .add t x y ty) = some (.val (.dv (.int .i64 (a + b)))) :=
  e_bin hx hy (by simp) (by simp only [intBin, wrap_i64 h1 h2])
theorem e_sub (hx : S.ev x = .dv (.int .i64 a)) (hy : S.ev y = .dv (.int .i64 b)) (h1 : -9223372036854775808 ≤ a - b) (h2 : a - b < 9223372036854775808) : outOf P S (.binOp .sub t x y ty) = some (.val (.dv (.int .i64 (a - b)))) :=
  e_bin hx hy (by simp) (by simp only [intBin, wrap_i64 h1 h2])
theorem e_eql (hx : S.ev x = .dv (.int k a)) (hy : S.ev y = .dv (.int k b)) : outOf P S (.binOp .eql t x y ty) = some (.val (.dv (.bool (a == b)))) := e_bin hx hy (by simp) rfl
theorem e_neq (hx : S.ev x = .dv (.int k a)) (hy : S.ev y = .dv (.int k b)) : outOf P S (.binOp .neq t x y ty) = some (.val (.dv (.bool (a != b)))) := e_bin hx hy (by simp) rfl
theorem e_lss (hx : S.ev x = .dv (.int k a)) (hy : S.ev y = .dv (.int k b)) : outOf P S (.binOp .lss t x y ty) = some (.val (.dv (.bool (decide (a < b))))) := e_bin hx hy (by simp) rfl
theorem e_leq (hx : S.ev x = .dv (.int k a)) (hy : S.ev y = .dv (.int k b)) : outOf P S (.binOp .leq t x y ty) = some (.val (.dv (.bool (decide (a ≤ b))))) := e_bin hx hy (by simp) rfl
theorem e_gtr (hx : S.ev x = .dv (.int k a)) (hy : S.ev y = .dv (.int k b)) : outOf P S (.binOp .gtr t x y ty) = some (.val (.dv (.bool (decide (b < a))))) := e_bin hx hy (by simp) rfl
theorem e_geq (hx : S.ev x = .dv (.int k a)) (hy : S.ev y = .dv (.int k b)) : outOf P S (.binOp .geq t x y ty) = some (.val (.dv (.bool (decide (b ≤ a))))) := e_bin hx hy (by simp) rfl
theorem e_beq (hx : S.ev x = .dv (.bool bb)) (hy : S.ev y = .dv (.bool cc)) (hP : isBoolP P t = true) : outOf P S (.binOp .eql t x y ty) = some (.val (.dv (.bool (bb == cc)))) := by simp only [outOf, hx, hy, binSV, hP, if_true, Option.map_some]
theorem e_not (hx : S.ev x = .dv (.bool bb)) : outOf P S (.unOp .not t x) = some (.val (.dv (.bool !bb))) := by simp only [outOf, hx, unSV, Option.map_some]
theorem e_field (hx : S.look x = (.dv (.cptr cs), ob)) (hf : fieldP P t f = some off) {cs' : List DV} (hc : cs.drop off = cs') : outOf P S (.fieldAddr t x f) = some (.val (.dv (.cptr cs'))) := by
  simp only [outOf, hx, fieldSV, hf, Option.map_some, hc]
theorem e_fieldp (hx : S.look x = (.pt tg g o, some blk)) (hf : fieldP P t f = some off) {o' : Nat} (ho : o + off = o') : outOf P S (.fieldAddr t x f) = some (.val (.pt tg g o')) := by
  simp only [outOf, hx, fieldSV, hf, Option.map_some, ho]
theorem e_load {d : DV} (hx : S.look x = (.dv (.cptr cs), ob)) (hs : szP P t = some sz) (ha : aggP P t = some false) (hc : cs[0]? = some d) : outOf P S (.load t x) = some (.val (.dv d)) := by
  simp only [outOf, hx, loadSV, hs, ha, hc, Option.map_some]
theorem e_loada (hx : S.look x = (.dv (.cptr cs), ob)) (hs : szP P t = some sz) (ha : aggP P t = some true) (hl : sz ≤ cs.length) {cs' : List DV} (hc : cs.take sz = cs') : outOf P S (.load t x) = some (.val (.dv (.agg cs'))) := by
  simp only [outOf, hx, loadSV, hs, ha, hl, if_true, hc, Option.map_some]
theorem e_loadp (hx : S.look x = (.pt tg g o, some blk)) (hs : szP P t = some sz) (ha : aggP P t = some false) (hc : blk.cells[o]? = some r) : outOf P S (.load t x) = some (.val r) := by
  simp only [outOf, hx, loadSV, hs, ha, hc, Option.map_some]
theorem e_loadpa (hx : S.look x = (.pt tg g o, some blk)) (hs : szP P t = some sz) (ha : aggP P t = some true) (hl : o + sz ≤ blk.cells.length) {r : SV} (hc : aggSV ((blk.cells.drop o).take sz) = r) : outOf P S (.load t x) = some (.val r) := by
  simp only [outOf, hx, loadSV, hs, ha, hl, if_true, hc, Option.map_some]
theorem e_index {α : Type} {F : α → DV} {L : List α} {q : α} (hx : S.look x = (.dv (.list (L.map F)), ob)) (hy : S.ev y = .dv (.int k n)) (h0 : 0 ≤ n) (hq : L[n.toNat]? = some q) (he : elemP P t = some e) (hs : szP P e = some (F q).cells.length) :
    outOf P S (.indexAddr t x y) = some (.val (.dv (.cptr (F q).cells))) := by
  have h1 : n.toNat < (L.map F).length := by rw [List.length_map]; exact (List.getElem?_eq_some_iff.1 hq).1
  have h2 : (L.map F)[n.toNat] = F q := by
    rw [List.getElem_map]
    exact congrArg F (List.getElem?_eq_some_iff.1 hq).2
  simp only [outOf, hx, hy, indexSV, he]
  rw [dif_pos ⟨h0, h1⟩, if_pos (by rw [h2]; exact hs), h2]
  rfl
theorem e_indexN {α : Type} {F : α → DV} {L : List α} {q : α} {i : Nat} (hx : S.look x = (.dv (.list (L.map F)), ob)) (hy : S.ev y = .dv (.int k (i : Int))) (hq : L[i]? = some q) (he : elemP P t = some e) (hs : szP P e = some (F q).cells.length) :
    outOf P S (.indexAddr t x y) = some (.val (.dv (.cptr (F q).cells))) := e_index hx hy (Int.natCast_nonneg i) (by rw [Int.toNat_natCast]; exact hq) he hs
theorem e_indexR (hx : S.look x = (.sl tg g o len, some blk)) (hy : S.ev y = .dv (.int k n)) (h0 : 0 ≤ n) (h1 : n.toNat < len) (he : elemP P t = some e) (hs : szP P e = some blk.esz) {o' : Nat} (ho : (o + n.toNat) * blk.esz = o') :
    outOf P S (.indexAddr t x y) = some (.val (.pt tg g o')) := by
  simp only [outOf, hx, hy, indexSV, he]
  rw [if_pos ⟨h0, h1, hs⟩, ho]
  rfl
theorem e_len {α : Type} {F : α → DV} {L : List α} (hx : S.look x = (.dv (.list (L.map F)), ob)) (hs : isSliceP P t = true) : outOf P S (.call { callee := .builtin .len, args := #[x], argTypes := #[t] }) = some (.val (.dv (.int .i64 (L.length : Int)))) := by
  simp only [outOf, callOut, builtinOut, hx, lenSV, hs, if_true, Option.map_some, List.length_map]
theorem e_lenR (hx : S.look x = (.sl tg g o len, some blk)) (hs : isSliceP P t = true) : outOf P S (.call { callee := .builtin .len, args := #[x], argTypes := #[t] }) = some (.val (.dv (.int .i64 (len : Int)))) := by
  simp only [outOf, callOut, builtinOut, hx, lenSV, hs, if_true, Option.map_some]
theorem e_len0 (hx : S.look x = (.nils, ob)) (hs : isSliceP P t = true) : outOf P S (.call { callee := .builtin .len, args := #[x], argTypes := #[t] }) = some (.val (.dv (.int .i64 0))) := by
  simp only [outOf, callOut, builtinOut, hx, lenSV, hs, if_true, Option.map_some]
theorem e_extract {i : Nat} (hx : S.ev x = s) (h : extractSV s i = some r) : outOf P S (.extract x i) = some (.val r) := by simp only [outOf, hx, h, Option.map_some]
theorem e_box {cc : List SV} (hx : S.ev x = s) (hc : cellsSV s = some cc) : outOf P S (.box t x) = some (.mk ⟨cc, 0, t, 0, false⟩ 0) := by simp only [outOf, hx, hc, Option.map_some]
theorem e_alloc {cc : List SV} (hc : zeroP P t = some cc) : outOf P S (.alloc t) = some (.mk ⟨cc, 0, t, 0, false⟩ 0) := by simp only [outOf, hc, Option.map_some]
theorem e_build {parts : Array (Nat × Operand)} {ps : List (Nat × SV)} (hp : (parts.toList.map fun p => (p.1, S.ev p.2)) = ps) {places : List (Nat × Nat)} {zs cc : List SV} (h1 : placesP P t = some places) (h2 : zeroP P t = some zs) (h3 : fillSV (fun i => places[i]?) zs ps = some cc) (h4 : aggSV cc = r) :
    outOf P S (.build t parts) = some (.val r) := by simp only [outOf, hp, buildSV, h1, h2, h3, Option.map_some, h4]
theorem e_buildSlice {parts : Array (Nat × Operand)} {ps : List (Nat × SV)} (hp : (parts.toList.map fun p => (p.1, S.ev p.2)) = ps) {zs cc : List SV} (he : elemP P t = some e) (hz : zeroP P e = some zs) (hs : szP P e = some sz)
    (h1 : zs.length = sz) (h2 : len * sz ≤ 16777216) (h3 : len ≤ 16777216) (hf : fillSV (fun i => some (i * sz, sz)) (List.replicate len zs).flatten ps = some cc) : outOf P S (.buildSlice t len parts) = some (.mk ⟨cc, sz, e, 0, true⟩ len) := by
  simp only [outOf, hp, buildSliceOut, he, hz, hs, h1, h2, h3, and_self, if_true, hf, Option.map_some]
theorem e_store {cc : List SV} (hx : S.look x = (.pt tg g o, some blk)) (hs : szP P t = some sz) (hv : cellsSV (S.ev y) = some cc) (h1 : cc.length = sz) (h2 : cc.all cellOk = true) (h3 : o + cc.length ≤ blk.cells.length) {cells : List SV} (hc : putCells blk.cells o cc = cells) :
    outOf P S (.store t x y) = some (.put tg { blk with cells := cells }) := by
  simp only [outOf, hx, storeOut, hs, hv]
  rw [if_pos ⟨h1, h2, h3⟩, hc]
theorem e_app0 {m' : Nat} {news zs : List SV} {tx ex : TypeId} (hs : S.look x = (.nils, ob)) (hx : srcSV sz (S.look y) = some (m', news)) (he : elemP P t = some e) (hex : elemP P tx = some ex) (hz : zeroP P e = some zs) (hsz : szP P e = some sz) (hb : bytesP P e = some by')
    (h1 : m' ≤ 9223372036854775807) (h2 : m' * by' ≤ 140737488355328) (h3 : zs.length = sz) : outOf P S (.call { callee := .builtin .append, args := #[x, y], argTypes := #[t, tx] }) = some (.app none ⟨news, sz, e, 0, true⟩ m') := by
  simp only [outOf, callOut, builtinOut, appendOut, he, hex, hsz, hb, hz, hx, hs]
  rw [if_pos ⟨h1, h2, h3⟩]
theorem e_app1 {m' : Nat} {news zs : List SV} {tx ex : TypeId} (hs : S.look x = (.sl tg g 0 len, some blk)) (hx : srcSV sz (S.look y) = some (m', news)) (he : elemP P t = some e) (hex : elemP P tx = some ex) (hz : zeroP P e = some zs) (hsz : szP P e = some sz) (hb : bytesP P e = some by')
    (hr : blk.row = true) (hes : blk.esz = sz) (hel : blk.elem = e) (hln : blk.cells.length = len * sz) (h1 : len + m' ≤ 9223372036854775807) (h2 : (len + m') * by' ≤ 140737488355328) (h3 : zs.length = sz) {cells : List SV} (hc : blk.cells ++ news = cells) :
    outOf P S (.call { callee := .builtin .append, args := #[x, y], argTypes := #[t, tx] }) = some (.app (some tg) { blk with cells := cells, st := 0 } (len + m')) := by
  simp only [outOf, callOut, builtinOut, appendOut, he, hex, hsz, hb, hz, hx, hs]
  rw [if_pos ⟨hr, hes, hel, hln, h1, h2, h3⟩, hc]
theorem src_map {α : Type} {F : α → DV} {L : List α} {M : Nat → Nat × Option Blk} (hF : ∀ q, (F q).cells = [F q]) (hok : ∀ q, cellOk (.dv (F q)) = true) : srcSV 1 (.dv (.list (L.map F)), ob) = some (L.length, L.map fun q => .dv (F q)) := by
  have h1 : (L.map F).all (fun d => d.cells.length == 1 && d.cells.all fun c => cellOk (.dv c)) = true := by
    rw [List.all_eq_true]
    intro d hd
    obtain ⟨q, _, rfl⟩ := List.mem_map.1 hd
    simp [hF, hok]
  have h2 : flat (L.map F) = L.map F := by
    unfold flat
    induction L with
    | nil => rfl
    | cons q L ih => simp only [List.map_cons, List.flatMap_cons, hF, List.cons_append, List.nil_append]; rw [ih]; rw [List.map_cons, List.all_cons, Bool.and_eq_true] at h1; exact h1.2
  simp only [srcSV, h1, if_true, List.length_map, h2, List.map_map]
  rfl
theorem src_ints {L : List Int} : srcSV 1 (.dv (.list (L.map (DV.int k))), ob) = some (L.length, L.map fun q => .dv (.int k q)) := src_map (M := fun _ => (0, none)) (fun _ => rfl) (fun _ => rfl)
end
end Go.Ab
set_option linter.unusedVariables false
namespace Go.Ab
open Go.RowKit
section
variable {cx : Cx} {P : Program} {N : Nat} {ops : Array Oper} {rest : List Oper} {K : St → Prop} {KD : List It → St → Prop} {its : List It} {d f : Nat} {args : Array Operand} {ts : Array TypeId} {ty : TypeId} {p : String} {af : Array Edge} {S S' : St} {ds : List DV} {res : Res} {R : List Nat}
  {ss : List SV}
variable {gd : Option (Nat × Bool)}
theorem c_callF (hP : cx.P = P) (hn : cx.n = N) (hd : d < N) (hgd : GOk ops S gd) (hc : ACallsF P f ds res) (hs : args.toList.map S.ev = ss) (ha : ArgsSV (Borrow S.M) ss ds) (hS : (resEff d S res).app S = S') (k : Chain cx ops rest S' K) :
    Chain cx ops (⟨some d, .call { callee := .value (.func f), args := args, argTypes := ts }, ty, p, af, gd⟩ :: rest) S K :=
  chain_call hP hn hd hgd (pre := []) (caps := []) rfl (.inl ⟨by rw [hs]; exact ha, by simpa using hc⟩) hS k
theorem c_callA (hP : cx.P = P) (hn : cx.n = N) (hd : d < N) (hgd : GOk ops S gd) (hc : ACalls P f ds res) (hs : args.toList.map S.ev = ss) (ha : ArgsSV (Lasting S.M) ss ds) (hS : (resEff d S res).app S = S') (k : Chain cx ops rest S' K) :
    Chain cx ops (⟨some d, .call { callee := .value (.func f), args := args, argTypes := ts }, ty, p, af, gd⟩ :: rest) S K :=
  chain_call hP hn hd hgd (pre := []) (caps := []) rfl (.inr ⟨by rw [hs]; exact ha, by simpa using hc⟩) hS k
theorem c_callVF {pre caps : List DV} {v : Nat} (hP : cx.P = P) (hn : cx.n = N) (hd : d < N) (hgd : GOk ops S gd) (hf : S.F v = .dv (.fn f pre caps)) (hc : ACallsF P f (pre ++ ds ++ caps) res) (hs : args.toList.map S.ev = ss) (ha : ArgsSV (Borrow S.M) ss ds) (hS : (resEff d S res).app S = S') (k : Chain cx ops rest S' K) :
    Chain cx ops (⟨some d, .call { callee := .value (.tmp v), args := args, argTypes := ts }, ty, p, af, gd⟩ :: rest) S K :=
  chain_call hP hn hd hgd hf (.inl ⟨by rw [hs]; exact ha, hc⟩) hS k
theorem d_callF (hP : cx.P = P) (hn : cx.n = N) (hd : d < N) (hgd : GOk ops S gd) (hc : ACallsF P f ds res) (hs : args.toList.map S.ev = ss) (ha : ArgsSV (Borrow (rst R S.M)) ss ds) (hS : (resEff d S res).app S = S') (k : DChain cx ops rest (⟨R ++ resTags d res, resEff d S res⟩ :: its) S' KD) :
    DChain cx ops (⟨some d, .call { callee := .value (.func f), args := args, argTypes := ts }, ty, p, af, gd⟩ :: rest) its S KD :=
  d_call hP hn hd hgd (pre := []) (caps := []) rfl (.inl ⟨by rw [hs]; exact ha, by simpa using hc⟩) hS k
end
section
variable {l : List (Nat × SV)} {m : List (Nat × Nat × Option Blk)} {d g : Nat}
theorem res_one {x : DV} : (resEff d ⟨lk l, mkM m⟩ (.one (.dv x))).app ⟨lk l, mkM m⟩ = ⟨lk ((d, .dv x) :: l), mkM m⟩ := by
  simp [resEff, Eff.app, impRes, impSV, resMs, impMs, setM, upd_lk]
theorem res_row {esz n : Nat} {elem : TypeId} {cs : List DV} (hg : (mkM m d).1 = g) : (resEff d ⟨lk l, mkM m⟩ (.one (.row esz elem n cs))).app ⟨lk l, mkM m⟩ = ⟨lk ((d, .sl d (g + 1) 0 n) :: l), mkM ((d, g + 1, some ⟨cs.map .dv, esz, elem, 0, true⟩) :: m)⟩ := by
  subst hg
  simp [resEff, Eff.app, impRes, impSV, resMs, impMs, setM, upd_lk, upd_mkM]
theorem res_dvs {x y : DV} {xs : List DV} : (resEff d ⟨lk l, mkM m⟩ (.many (.dv x :: .dv y :: xs.map .dv))).app ⟨lk l, mkM m⟩ = ⟨lk ((d, .tup (.dv x :: .dv y :: xs.map .dv)) :: l), mkM m⟩ := by
  have h1 : ∀ (xs : List DV) (j : Nat) (M : Nat → Nat × Option Blk), impSV d j (xs.map .dv) M = (xs.map .dv, M) := by
    intro xs
    induction xs with
    | nil => intro j M; rfl
    | cons x xs ih => intro j M; simp [impSV, ih]
  have h2 : ∀ (xs : List DV) (j : Nat) (M : Nat → Nat × Option Blk), impMs d j (xs.map .dv) M = [] := by
    intro xs
    induction xs with
    | nil => intro j M; rfl
    | cons x xs ih => intro j M; simp [impMs, ih]
  simp [resEff, Eff.app, impRes, impSV, resMs, impMs, setM, upd_lk, h1, h2]
theorem res_two {x y : DV} : (resEff d ⟨lk l, mkM m⟩ (.many [.dv x, .dv y])).app ⟨lk l, mkM m⟩ = ⟨lk ((d, .tup [.dv x, .dv y]) :: l), mkM m⟩ := res_dvs (xs := [])
theorem res_three {x y z : DV} : (resEff d ⟨lk l, mkM m⟩ (.many [.dv x, .dv y, .dv z])).app ⟨lk l, mkM m⟩ = ⟨lk ((d, .tup [.dv x, .dv y, .dv z]) :: l), mkM m⟩ := res_dvs (xs := [z])
theorem res_rowdv {esz n : Nat} {elem : TypeId} {cs : List DV} {x : DV} (hg : (mkM m d).1 = g) : (resEff d ⟨lk l, mkM m⟩ (.many [.row esz elem n cs, .dv x])).app ⟨lk l, mkM m⟩ = ⟨lk ((d, .tup [.sl d (g + 1) 0 n, .dv x]) :: l), mkM ((d, g + 1, some ⟨cs.map .dv, esz, elem, 0, true⟩) :: m)⟩ := by
  subst hg
  simp [resEff, Eff.app, impRes, impSV, resMs, impMs, setM, upd_lk, upd_mkM]
theorem res_rowdvdv {esz n : Nat} {elem : TypeId} {cs : List DV} {x y : DV} (hg : (mkM m d).1 = g) : (resEff d ⟨lk l, mkM m⟩ (.many [.row esz elem n cs, .dv x, .dv y])).app ⟨lk l, mkM m⟩ = ⟨lk ((d, .tup [.sl d (g + 1) 0 n, .dv x, .dv y]) :: l), mkM ((d, g + 1, some ⟨cs.map .dv, esz, elem, 0, true⟩) :: m)⟩ := by
  subst hg
  simp [resEff, Eff.app, impRes, impSV, resMs, impMs, setM, upd_lk, upd_mkM]
end
section
variable {ok : Nat → Prop} {okd : DV → Prop} {M : Nat → Nat × Option Blk}
theorem args_nil : ArgsSV (Data ok okd M) [] [] := trivial
theorem args_cons {s : SV} {d : DV} {ss : List SV} {ds : List DV} (h : Data ok okd M s d) (k : ArgsSV (Data ok okd M) ss ds) : ArgsSV (Data ok okd M) (s :: ss) (d :: ds) := ⟨h, k⟩
theorem data_dv {d : DV} : Data ok (fun _ => True) M (.dv d) d := .dv d trivial
theorem data_row {t g n : Nat} {blk : Blk} {l : List DV} (hM : M t = (g, some blk)) (hst : ok blk.st) (hl : l.length = n) (he : ∀ d ∈ l, d.cells.length = blk.esz) (hc : blk.cells = (flat l).map .dv) (hd : ∀ c ∈ flat l, okd c) : Data ok okd M (.sl t g 0 n) (.list l) := by
  refine .sl t g 0 n blk l (fun j => .dv ((flat l).getD j default)) hM hst hl he (fun j c hj => ?_) fun j c hj => ?_
  · simp [hc, hj]
  · have : (flat l).getD j default = c := by simp [hj]
    rw [this]
    exact .dv c (hd c (List.mem_of_getElem? hj))
theorem flat_one {α : Type} {F : α → DV} {L : List α} (hF : ∀ q, (F q).cells = [F q]) : flat (L.map F) = L.map F := by
  unfold flat
  induction L with
  | nil => rfl
  | cons q L ih => simp only [List.map_cons, List.flatMap_cons, hF, List.cons_append, List.nil_append]; rw [ih]
theorem data_ints {t g n : Nat} {blk : Blk} {k : IntKind} {L : List Int} (hM : M t = (g, some blk)) (hst : ok blk.st) (hl : L.length = n) (he : blk.esz = 1) (hc : blk.cells = L.map fun q => .dv (.int k q)) (hd : ∀ q, okd (.int k q)) : Data ok okd M (.sl t g 0 n) (.list (L.map (DV.int k))) := by
  have hf : flat (L.map (DV.int k)) = L.map (DV.int k) := flat_one fun _ => rfl
  refine data_row hM hst (by simpa using hl) (fun d hd' => ?_) ?_ fun c hc' => ?_
  · obtain ⟨q, _, rfl⟩ := List.mem_map.1 hd'; rw [he]; rfl
  · rw [hf, hc, List.map_map]; rfl
  · rw [hf] at hc'; obtain ⟨q, _, rfl⟩ := List.mem_map.1 hc'; exact hd q
end
theorem retOk_dv {okd : DV → Prop} {M : Nat → Nat × Option Blk} {s : SV} {d : DV} (h : Data (fun _ => True) okd M s d) : RetOk okd M s (.dv d) := h
theorem retOk_ints {okd : DV → Prop} {M : Nat → Nat × Option Blk} {t g n : Nat} {k : IntKind} {elem : TypeId} {L : List Int} (hM : M t = (g, some ⟨L.map fun q => .dv (.int k q), 1, elem, 0, true⟩)) (hl : L.length = n) : RetOk okd M (.sl t g 0 n) (.row 1 elem n (L.map (DV.int k))) := by
  refine .inr ⟨t, g, rfl, ?_, by simp [hl], fun c hc => ?_⟩
  · rw [hM, List.map_map]; rfl
  · obtain ⟨q, _, rfl⟩ := List.mem_map.1 hc; exact .int _ _
theorem retOk_nil {okd : DV → Prop} {M : Nat → Nat × Option Blk} {esz : Nat} {elem : TypeId} : RetOk okd M .nils (.row esz elem 0 []) := .inl ⟨rfl, rfl, rfl⟩
theorem end_one {P : Program} {okd : DV → Prop} {S : St} {e : Exit} {t : Nat} {s : SV} {r : R1} (he : e = .normal ∨ e = .ret) (hs : S.F t = s) (hr : RetOk okd S.M s r) (ha : (∃ d, r = .dv d) ∨ ∀ d, r = .dv d → Scalar d) : EndK P okd [.tmp t] (.one r) e S := by
  refine ⟨he, [s], [r], by simp [resSV, hs], ⟨hr, trivial⟩, ?_, rfl⟩
  rcases ha with ⟨d, rfl⟩ | ha
  · exact .inl fun r hr => ⟨d, by simpa using hr⟩
  · refine .inr ⟨fun r' hr' d hd => ?_, ?_⟩
    · simp only [List.mem_singleton] at hr'; subst hr'; exact ha d hd
    · cases s <;> cases r <;> simp [tagsOf]
theorem end_dv {P : Program} {okd : DV → Prop} {S : St} {e : Exit} {t : Nat} {d : DV} (he : e = .normal ∨ e = .ret) (hs : S.F t = .dv d) (hd : okd d) : EndK P okd [.tmp t] (.one (.dv d)) e S :=
  end_one he hs (retOk_dv (.dv d hd)) (.inl ⟨d, rfl⟩)
theorem svLes_ints {τ : Nat → Option Nat} {M M' : Nat → Nat × Option Blk} {k : IntKind} : ∀ {L L' : List Int}, svLes τ M M' (L.map fun q => .dv (.int k q)) (L'.map fun q => .dv (.int k q)) ↔ L = L'
  | [], [] => by simp [svLes]
  | [], _ :: _ => by simp [svLes]
  | _ :: _, [] => by simp [svLes]
  | a :: L, b :: L' => by
    simp only [List.map_cons, svLes, svLe, DV.int.injEq, true_and, svLes_ints, List.cons.injEq]
theorem ints_snoc {k : IntKind} {L : List Int} {v : Int} : (L.map fun q => SV.dv (.int k q)) ++ [SV.dv (.int k v)] = (L ++ [v]).map fun q => .dv (.int k q) := by simp
theorem ints_app {k : IntKind} {L L' : List Int} : (L.map fun q => SV.dv (.int k q)) ++ (L'.map fun q => SV.dv (.int k q)) = (L ++ L').map fun q => .dv (.int k q) := by simp
abbrev rowK (k : IntKind) (e : TypeId) (L : List Int) : Blk := ⟨L.map fun q => .dv (.int k q), 1, e, 0, true⟩
abbrev rK (k : IntKind) (e : TypeId) (L : List Int) : R1 := .row 1 e L.length (L.map (DV.int k))
section
variable {l : List (Nat × SV)} {m : List (Nat × Nat × Option Blk)} {d g : Nat} {k : IntKind} {e : TypeId} {L : List Int}
theorem rowK_eq : (⟨(L.map (DV.int k)).map .dv, 1, e, 0, true⟩ : Blk) = rowK k e L := by simp
theorem res_rK1 (hg : (mkM m d).1 = g) : (resEff d ⟨lk l, mkM m⟩ (.one (rK k e L))).app ⟨lk l, mkM m⟩ = ⟨lk ((d, .sl d (g + 1) 0 L.length) :: l), mkM ((d, g + 1, some (rowK k e L)) :: m)⟩ := by
  rw [res_row hg, rowK_eq]
theorem res_rK2 {x : DV} (hg : (mkM m d).1 = g) : (resEff d ⟨lk l, mkM m⟩ (.many [rK k e L, .dv x])).app ⟨lk l, mkM m⟩ = ⟨lk ((d, .tup [.sl d (g + 1) 0 L.length, .dv x]) :: l), mkM ((d, g + 1, some (rowK k e L)) :: m)⟩ := by
  rw [res_rowdv hg, rowK_eq]
theorem res_rK3 {x y : DV} (hg : (mkM m d).1 = g) : (resEff d ⟨lk l, mkM m⟩ (.many [rK k e L, .dv x, .dv y])).app ⟨lk l, mkM m⟩ = ⟨lk ((d, .tup [.sl d (g + 1) 0 L.length, .dv x, .dv y]) :: l), mkM ((d, g + 1, some (rowK k e L)) :: m)⟩ := by
  rw [res_rowdvdv hg, rowK_eq]
end
theorem retOk_rK {okd : DV → Prop} {M : Nat → Nat × Option Blk} {t g n : Nat} {k : IntKind} {e : TypeId} {L : List Int} (hM : M t = (g, some (rowK k e L))) (hl : n = L.length) : RetOk okd M (.sl t g 0 n) (rK k e L) := by
  subst hl; exact retOk_ints hM rfl
theorem retOk_rK0 {okd : DV → Prop} {M : Nat → Nat × Option Blk} {k : IntKind} {e : TypeId} : RetOk okd M .nils (rK k e []) := retOk_nil
theorem end_row1 {P : Program} {okd : DV → Prop} {S : St} {x : Exit} {t : Nat} {s1 : SV} {k : IntKind} {e : TypeId} {L : List Int} (he : x = .normal ∨ x = .ret) (hs : S.F t = s1) (h1 : RetOk okd S.M s1 (rK k e L)) : EndK P okd [.tmp t] (.one (rK k e L)) x S :=
  end_one he hs h1 (.inr fun d hd => by cases hd)
theorem end_row2 {P : Program} {okd : DV → Prop} {S : St} {x : Exit} {t u : Nat} {s1 s2 : SV} {k : IntKind} {e : TypeId} {L : List Int} {d : DV} (he : x = .normal ∨ x = .ret) (hs : S.F t = s1) (hu : S.F u = s2) (h1 : RetOk okd S.M s1 (rK k e L)) (h2 : Data (fun _ => True) okd S.M s2 d) (hd : Scalar d) :
    EndK P okd [.tmp t, .tmp u] (.many [rK k e L, .dv d]) x S := by
  refine ⟨he, [s1, s2], [rK k e L, .dv d], by simp [resSV, hs, hu], ⟨h1, h2, trivial⟩, .inr ⟨fun r hr q hq => ?_, ?_⟩, rfl⟩
  · simp only [List.mem_cons, List.not_mem_nil, or_false] at hr
    rcases hr with rfl | rfl
    · cases hq
    · cases hq; exact hd
  · cases s1 <;> cases s2 <;> simp [tagsOf]
theorem end_row3 {P : Program} {okd : DV → Prop} {S : St} {x : Exit} {t u v : Nat} {s1 s2 s3 : SV} {k : IntKind} {e : TypeId} {L : List Int} {d c : DV} (he : x = .normal ∨ x = .ret) (hs : S.F t = s1) (hu : S.F u = s2) (hv : S.F v = s3) (h1 : RetOk okd S.M s1 (rK k e L)) (h2 : Data (fun _ => True) okd S.M s2 d)
    (h3 : Data (fun _ => True) okd S.M s3 c) (hd : Scalar d) (hc : Scalar c) : EndK P okd [.tmp t, .tmp u, .tmp v] (.many [rK k e L, .dv d, .dv c]) x S := by
  refine ⟨he, [s1, s2, s3], [rK k e L, .dv d, .dv c], by simp [resSV, hs, hu, hv], ⟨h1, h2, h3, trivial⟩, .inr ⟨fun r hr q hq => ?_, ?_⟩, rfl⟩
  · simp only [List.mem_cons, List.not_mem_nil, or_false] at hr
    rcases hr with rfl | rfl | rfl
    · cases hq
    · cases hq; exact hd
    · cases hq; exact hc
  · cases s1 <;> cases s2 <;> cases s3 <;> simp [tagsOf]
def isDvs : List SV → Bool
  | [] => true
  | .dv _ :: l => isDvs l
  | _ :: _ => false
theorem isDvs_iff : ∀ {l : List SV}, isDvs l = true ↔ ∀ c ∈ l, ∃ d, c = .dv d
  | [] => by simp [isDvs]
  | .dv d :: l => by simp [isDvs, isDvs_iff (l := l)]
  | .dead :: l | .nils :: l | .emp _ :: l | .sl .. :: l | .pt .. :: l | .agg _ :: l | .tup _ :: l | .val _ :: l => by simp [isDvs]
theorem isDvs_map {α : Type} {F : α → DV} {L : List α} : isDvs (L.map fun q => .dv (F q)) = true := by simp [isDvs_iff]
theorem isDvs_app {a b : List SV} : isDvs (a ++ b) = (isDvs a && isDvs b) := by
  rw [Bool.eq_iff_iff, Bool.and_eq_true, isDvs_iff, isDvs_iff, isDvs_iff]
  simp only [List.mem_append, or_imp, forall_and]
theorem isDvs_take {a : List SV} {n : Nat} (h : isDvs a = true) : isDvs (a.take n) = true := isDvs_iff.2 fun c hc => isDvs_iff.1 h c (List.mem_of_mem_take hc)
theorem isDvs_set {a : List SV} {n : Nat} {d : DV} (h : isDvs a = true) : isDvs (a.set n (.dv d)) = true := isDvs_iff.2 fun c hc => by
  rcases List.mem_or_eq_of_mem_set hc with h1 | h1
  · exact isDvs_iff.1 h c h1
  · exact ⟨d, h1⟩
theorem isDvs_repl {n : Nat} {d : DV} : isDvs (List.replicate n (.dv d)) = true := isDvs_iff.2 fun c hc => ⟨d, List.eq_of_mem_replicate hc⟩
theorem svLes_self {τ : Nat → Option Nat} {M M' : Nat → Nat × Option Blk} : ∀ {cs : List SV}, isDvs cs = true → svLes τ M M' cs cs
  | [], _ => by simp [svLes]
  | .dv d :: cs, h => by simp only [svLes, svLe, true_and]; exact svLes_self (by simpa only [isDvs] using h)
  | .dead :: l, h | .nils :: l, h | .emp _ :: l, h | .sl .. :: l, h | .pt .. :: l, h | .agg _ :: l, h | .tup _ :: l, h | .val _ :: l, h => by simp [isDvs] at h
end Go.Ab
