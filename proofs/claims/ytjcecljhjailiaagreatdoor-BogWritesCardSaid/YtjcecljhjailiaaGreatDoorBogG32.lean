/- Ab55, BogQ1, BogQ2, BogQ3. -/
import Derived.Test.YtjcecljhjailiaaGreatDoorBogG31
import Derived.Test.YtjcecljhjailiaaGreatDoorBogG31
import Derived.Test.YtjcecljhjailiaaGreatDoorBogG31
import Derived.Test.YtjcecljhjailiaaGreatDoorBogG31
import Derived.Test.YtjcecljhjailiaaGreatDoorBogG29
import Derived.Test.YtjcecljhjailiaaGreatDoorBogG09
set_option linter.all false
namespace Go.Ab
open Go.RowKit Go.Conc.Locks
def OwnL : List (Nat × Blk) → List (Nat × Blk) → Prop
  | [], [] => True
  | (t, b) :: m, (t', b') :: m' => t' = t ∧ (b' = b ∨ (3 ≤ b.st ∧ b' = { b with st := 0 })) ∧ OwnL m m'
  | _, _ => False
theorem ownL_to : ∀ {m m' : List (Nat × Blk)}, OwnL m m' → ∀ t g b', mkB m' t = (g, some b') → ∃ b, mkB m t = (g, some b) ∧ (b' = b ∨ (3 ≤ b.st ∧ b' = { b with st := 0 }))
  | [], [], _, t, g, b', h => by simp [mkB, mkM] at h
  | (k, b) :: m, (k', c) :: m', ho, t, g, b', h => by
    obtain ⟨rfl, h1, h2⟩ := ho
    simp only [mkB, List.map_cons, mkM] at h ⊢
    by_cases e : t = k'
    · rw [if_pos e] at h ⊢
      simp only [Prod.mk.injEq, Option.some.injEq] at h
      obtain ⟨rfl, rfl⟩ := h
      exact ⟨b, rfl, h1⟩
    · rw [if_neg e] at h ⊢
      exact ownL_to h2 t g b' h
  | [], _ :: _, h, _, _, _, _ => h.elim
  | _ :: _, [], h, _, _, _, _ => h.elim
theorem ownL_gen : ∀ {m m' : List (Nat × Blk)} (t : Nat), (mkB m' t).1 = (mkB m t).1 := by
  have h0 : ∀ (l : List (Nat × Blk)) (t : Nat), (mkB l t).1 = 0 := by
    intro l t
    induction l with
    | nil => rfl
    | cons p l ih =>
      simp only [mkB, List.map_cons, mkM]
      split
      · rfl
      · exact ih
  intro m m' t
  rw [h0, h0]
theorem ACallsG.own {P : Program} {f : FuncId} {args : List SV} {M0 : Nat → Nat × Option Blk} {res : List SV} {mem mem' : List (Nat × Blk)} (h : ACallsG P f args M0 ⟨res, mkB mem⟩) (ho : OwnL mem mem') : ACallsG P f args M0 ⟨res, mkB mem'⟩ := by
  refine ⟨h.1, fun w X0 Wr loc μ vs h1 h2 h3 h4 h5 => (h.2 w X0 Wr loc μ vs h1 h2 h3 h4 h5).mono fun e w' ⟨us, μ', e1, e2, e3, e4⟩ => ?_⟩
  have ow : ∀ {b b' : Blk}, (b' = b ∨ (3 ≤ b.st ∧ b' = { b with st := 0 })) → (OwS b'.st ↔ OwS b.st) := by
    rintro b b' (rfl | ⟨q, rfl⟩)
    · exact Iff.rfl
    · exact ⟨fun _ => .inr q, fun _ => .inl rfl⟩
  have hX : ∀ b, (Own (mkB mem') μ' b ∨ X0 b) → (Own (mkB mem) μ' b ∨ X0 b) := by
    rintro b (⟨t, g, blk, cap, q1, q2, q3⟩ | hx)
    · obtain ⟨b0, k1, k2⟩ := ownL_to ho t g blk q1
      exact .inl ⟨t, g, b0, cap, k1, (ow k2).1 q2, q3⟩
    · exact .inr hx
  have mono : ∀ (c : SV) (v : Value), SVRep w' (mkB mem) μ' (fun b => Own (mkB mem) μ' b ∨ X0 b) c v → SVRep w' (mkB mem') μ' (fun b => Own (mkB mem') μ' b ∨ X0 b) c v :=
    fun c v hc => SVRep.mono (Nat.le_refl _) (fun b _ hx => ⟨rfl, fun hh => hx (hX b hh)⟩) (fun t => Nat.le_of_eq (ownL_gen (m := mem') (m' := mem) t)) (fun t g blk' e _ => by
      obtain ⟨b0, k1, k2⟩ := ownL_to ho t g blk' e
      exact ⟨b0, k1, rfl, by rcases k2 with rfl | ⟨_, rfl⟩ <;> rfl⟩) c v hc
  refine ⟨us, μ', e1, e2, ⟨fun t g blk e => ?_, fun t g blk b cap e hm => ?_, fun t g blk t' g' blk' b cap cap' hne q1 q2 q3 m1 m2 => ?_, fun t g blk e h3 => ?_⟩, ?_⟩
  · obtain ⟨b0, k1, k2⟩ := ownL_to ho t g blk e
    have hb := e3.blk t g b0 k1
    have eq : blk.cells = b0.cells ∧ blk.esz = b0.esz ∧ blk.elem = b0.elem ∧ blk.row = b0.row := by rcases k2 with rfl | ⟨_, rfl⟩ <;> exact ⟨rfl, rfl, rfl, rfl⟩
    obtain ⟨q1, q2, q3, q4⟩ := eq
    unfold BlkRep at hb ⊢
    cases hm : μ' t with
    | none =>
      simp only [hm] at hb ⊢
      rw [q1, q4]; exact hb
    | some p =>
      obtain ⟨b, cap⟩ := p
      simp only [hm] at hb ⊢
      obtain ⟨cur, r1, r2, r3, r4, r5⟩ := hb
      refine ⟨cur, by rw [q3]; exact r1, by rw [q1]; exact r2, fun j c u hj hu => ?_, by rw [q4, q2]; exact r4, by rw [q4, q1]; exact r5⟩
      rw [q1] at hj
      exact mono c u (r3 j c u hj hu)
  · obtain ⟨b0, k1, _⟩ := ownL_to ho t g blk e
    exact e3.place t g b0 b cap k1 hm
  · obtain ⟨b0, k1, k2⟩ := ownL_to ho t g blk q1
    obtain ⟨b1, k3, k4⟩ := ownL_to ho t' g' blk' q2
    obtain ⟨r1, r2⟩ := e3.uniq t g b0 t' g' b1 b cap cap' hne k1 k3 ((ow k2).1 q3) m1 m2
    have c1 : blk.cells = b0.cells := by rcases k2 with rfl | ⟨_, rfl⟩ <;> rfl
    rcases k4 with rfl | ⟨k5, _⟩
    · rw [c1]; exact ⟨r1, r2⟩
    · omega
  · obtain ⟨b0, k1, k2⟩ := ownL_to ho t g blk e
    rcases k2 with rfl | ⟨_, rfl⟩
    · exact e3.anc t g blk k1 h3
    · simp at h3
  · have : ∀ (cs : List SV) (vs : List Value), SVReps w' (mkB mem) μ' (fun b => Own (mkB mem) μ' b ∨ X0 b) cs vs → SVReps w' (mkB mem') μ' (fun b => Own (mkB mem') μ' b ∨ X0 b) cs vs := by
      intro cs
      induction cs with
      | nil => intro vs hh; cases vs <;> simp only [SVReps] at hh ⊢
      | cons c cs ih =>
        intro vs hh
        cases vs with
        | nil => simp only [SVReps] at hh
        | cons v vs => simp only [SVReps] at hh ⊢; exact ⟨mono c v hh.1, ih vs hh.2⟩
    exact this _ _ e4
section
variable {cx : Cx} {P : Program} {N : Nat} {ops : Array Oper} {rest : List Oper} {l : List (Nat × SV)} {m : List (Nat × Nat × Option Blk)} {K : St → Prop} {d t ty t2 : Nat} {p : String} {af : Array Edge} {x : Operand} {gd : Option (Nat × Bool)}
theorem pnl_step {op : BinOp} {c : Bool} (hop : (op = .eql ∧ c = false) ∨ (op = .neq ∧ c = true)) {bt g off : Nat} {blk : Blk} (hu : isPtrP P t = true) (hx : St.ev ⟨lk l, mkM m⟩ x = .pt bt g off) (hM : mkM m bt = (g, some blk)) (hP : cx.P = P) (hn : cx.n = N) (hd : d < N) :
    Step cx ⟨lk l, mkM m⟩ (⟨some d, .binOp op t x (.const (.pointer none)) t2, ty, p, af, gd⟩ : Oper) ⟨lk ((d, .dv (.bool c)) :: l), mkM m⟩ := by
  subst hP; subst hn
  refine .sem fun hg a w ⟨μ, h⟩ => Runs.does ?_
  have hv := h.ev x
  rw [hx] at hv
  simp only [SVRep] at hv
  obtain ⟨b, cap, _, hv⟩ := hv.2 blk hM
  have ha : (⟨lk l, mkM m⟩ : St).apply cx.n (some d) (.val (.dv (.bool c))) = some ⟨lk ((d, .dv (.bool c)) :: l), mkM m⟩ := by
    have := apply_eff (eff_val (r := .dv (.bool c)) hd ⟨lk l, mkM m⟩)
    rw [this, app_val]
  refine runs_val h (v := .bool c) ?_ (by simp only [SVRep]; exact RepD.bool _) ha
  have hu2 : ∃ e, cx.P.underlying t = some (.pointer e) := by
    unfold isPtrP at hu
    split at hu
    · exact ⟨_, by assumption⟩
    · cases hu
  obtain ⟨e, hu2⟩ := hu2
  have key := ptr_bin_run hu2 x (.const (.pointer none)) (some ⟨b, off, none⟩) w
  have e2 : a.eval (.const (.pointer none)) = .pointer none := rfl
  unfold execOp
  simp only [Sem.run_bind]
  rw [e2]
  rw [← hv] at key
  rcases hop with ⟨rfl, rfl⟩ | ⟨rfl, rfl⟩
  · have k1 := key.1
    simp only [Sem.run_bind] at k1
    rw [k1]; rfl
  · have k1 := key.2
    simp only [Sem.run_bind] at k1
    rw [k1]; rfl
theorem q_pnl {bt g off : Nat} {blk : Blk} (hu : isPtrP P t = true) (kk : Chain cx ops rest ⟨lk ((d, .dv (.bool false)) :: l), mkM m⟩ K) (hx : St.ev ⟨lk l, mkM m⟩ x = .pt bt g off := by (simp only [St.look, St.ev, lk, mkM, blkOf, svOf, svOfCell, reduceIte, Nat.reduceAdd, Nat.reduceEqDiff, Nat.reduceMul] <;> rfl))
    (hM : mkM m bt = (g, some blk) := by (simp only [mkM, reduceIte, Nat.reduceEqDiff] <;> rfl)) (hP : cx.P = P := by assumption) (hn : cx.n = N := by assumption) (hd : d < N := by decide) (hgd : GOk ops ⟨lk l, mkM m⟩ gd := by (first | exact trivial | exact ⟨_, rfl, by (simp only [lk, reduceIte, Nat.reduceEqDiff])⟩)) :
    Chain cx ops (⟨some d, .binOp .eql t x (.const (.pointer none)) t2, ty, p, af, gd⟩ :: rest) ⟨lk l, mkM m⟩ K :=
  ⟨_, gstep_of hgd (pnl_step (.inl ⟨rfl, rfl⟩) hu hx hM hP hn hd), kk⟩
end
section
variable {cx : Cx} {K : Exit → St → Prop} {S S' : St}
end
end Go.Ab
namespace Go.Ab
open Go.RowKit Go.Conc.Locks
section
variable {cx : Cx} {P : Program} {N : Nat} {ops : Array Oper} {rest : List Oper} {l : List (Nat × SV)} {m m' : List (Nat × Nat × Option Blk)} {K : St → Prop} {d ty : Nat} {p : String} {af : Array Edge} {x : Operand} {ts : Array TypeId}
theorem q_lock {L : MuLink} (H : MuLib P L) (hU : EnterP P L.lock) {t g off : Nat} {blk : Blk} (kk : Chain cx ops rest ⟨lk ((d, .tup []) :: l), mkM ((t, g, some { blk with cells := putCells blk.cells off [.dv (.int .i32 1)] }) :: m')⟩ K)
    (hx : St.ev ⟨lk l, mkM m⟩ x = .pt t g off := by (simp only [St.look, St.ev, lk, mkM, blkOf, svOf, svOfCell, reduceIte, Nat.reduceAdd, Nat.reduceEqDiff, Nat.reduceMul] <;> rfl))
    (hM : mkM m t = (g, some blk) := by (simp only [mkM, reduceIte, Nat.reduceEqDiff] <;> rfl)) (hO : OwS blk.st := by (first | exact .inl rfl | exact .inr (Nat.le_of_ble_eq_true rfl))) (h0 : blk.cells[off]? = some (.dv (.int .i32 0)) := by rfl) (hv : nvL m = m' := by (simp only [nvL, killV] <;> rfl)) (hP : cx.P = P := by assumption) (hn : cx.n = N := by assumption) (hd : d < N := by decide) :
    Chain cx ops (⟨some d, .call { callee := .value (.func L.lock), args := #[x], argTypes := ts }, ty, p, af, none⟩ :: rest) ⟨lk l, mkM m⟩ K := by
  subst hP; subst hn; subst hv
  refine ⟨⟨lk ((d, .tup []) :: l), mkM ((t, g, some { blk with cells := putCells blk.cells off [.dv (.int .i32 1)] }) :: nvL m)⟩, ?_, kk⟩
  show Step cx ⟨lk l, mkM m⟩ _ _
  refine .sem fun hg a w ⟨μ, h⟩ => ?_
  have hv := h.ev x
  rw [hx] at hv
  simp only [SVRep] at hv
  obtain ⟨b, cap, hm, hv⟩ := hv.2 blk hM
  have hb := h.blk t g blk hM
  unfold BlkRep at hb
  rw [hm] at hb
  obtain ⟨cur, q1, q2, q3, q4, q5⟩ := hb
  have hoff : off < blk.cells.length := (List.getElem?_eq_some_iff.1 h0).1
  have hoff2 : off < cur.size := by omega
  have hcur : cur[off]? = some cur[off] := by simp [hoff2]
  have hval := q3 off _ _ h0 hcur
  simp only [SVRep] at hval
  have hcv : cur[off]? = some (.int .i32 0) := by
    rw [hcur]
    generalize cur[off] = u at hval
    cases hval
    rfl
  intro Q
  unfold Oper.wp
  rw [call_exec (f := L.lock) (vp := #[]) (vc := #[]) rfl rfl hU]
  have hargs : (#[] ++ (#[x]).map a.eval ++ #[] : Array Value) = #[.pointer (some ⟨b, off, none⟩)] := by simp [hv]
  rw [hargs]
  refine (MuLone.lock_free H ⟨b, off, none⟩ w (by simp [World.cell?, q1, hcv]) (frozen_of_row w b off cur blk.elem q1)).mono ?_
  rintro e w' ⟨rfl, rfl⟩
  have hwr := h.write hM hO hm q1 off [.dv (.int .i32 1)] [.int .i32 1] rfl (fun j c u hj hu => by
    match j, hj, hu with
    | 0, hj, hu =>
      simp only [List.getElem?_cons_zero, Option.some.injEq] at hj hu
      subst hj; subst hu
      simp only [SVRep]
      exact .int _ _) (by simp; omega)
  rw [putCells_one (l := cur.toList) (by simpa using hoff2), ← setCell_eq_setRow w b off cur blk.elem (0, 0) (.int .i32 1) q1] at hwr
  have hs := hwr.set hd (r := .tup []) (v := .tuple #[]) SVRep_tup0
  refine ⟨μ, ?_⟩
  have e1 : (⟨upd (lk l) d (.tup []), upd (noViews (mkM m)) t (g, some { blk with cells := putCells blk.cells off [.dv (.int .i32 1)] })⟩ : St) = ⟨lk ((d, .tup []) :: l), mkM ((t, g, some { blk with cells := putCells blk.cells off [.dv (.int .i32 1)] }) :: nvL m)⟩ := by
    rw [upd_lk, noViews_mkM, upd_mkM]
  rw [← e1]
  exact hs
end
end Go.Ab
set_option linter.all false
namespace Go.Ab.Tryz
open Go Go.Ab Go.Proofs Go.Ab.Moss Go.Ab.Bog
open Go.Ab.Heap (ata ata_get ata_set)
open Go.Ab.Heap (Hp dHp validate sm)
abbrev stC (c : Cs) (q : Nat) : List SV := [.dv (i64 c.day), .dv (ints c.hollow), .dv (ints c.turves), .dv (i64 (c.wet : Int)), .dv (i64 c.money), .dv (i64 c.cut), .dv (i64 c.loaded), .dv (.bool c.shut), .sl q 0 0 c.orders.length]
abbrev stB (c : Cs) (q st : Nat) : Blk := ⟨stC c q, 0, 98, st, false⟩
abbrev coC (b : Bg) (h : Hp) (n : Int) (c : Cs) (s : Int) (q : Nat) : List SV := [.dv (.int .i32 s), .dv (.int .u32 0), .dv (.list (b.worth.map ints)), .dv (.list (h.links.map ints)), .dv (ints h.ground), .dv (i64 (b.dep : Int)), .dv (i64 (b.worth.length : Int)), .dv (i64 n),
  .dv (i64 c.day), .dv (ints c.hollow), .dv (ints c.turves), .dv (i64 (c.wet : Int)), .dv (i64 c.money), .dv (i64 c.cut), .dv (i64 c.loaded), .dv (.bool c.shut), .sl q 0 0 c.orders.length]
abbrev coB (b : Bg) (h : Hp) (n : Int) (c : Cs) (s : Int) (q st : Nat) : Blk := ⟨coC b h n c s q, 0, 100, st, false⟩
abbrev rowXs (L : List Tx) (st : Nat) : Blk := ⟨L.map fun T => .dv (dTx T), 1, 9, st, true⟩
abbrev three (b : Bg) (h : Hp) (n : Int) (c d : Cs) (s : Int) : List (Nat × Blk) := [(100000, stB d 100002 100003), (100001, coB b h n c s 100002 100004), (100002, rowXs c.orders 100005)]
theorem errD_0 : errD 0 = .nilIface := rfl
theorem errD_n {e : Int} (h : e ≠ 0) : errD e = .iface 133 (.agg [.int .i64 e]) := by unfold errD; rw [if_neg h]
def orS (e : Int) (x c : Cs) : Cs := if e = 0 then x else c
theorem orS_0 {x c : Cs} : orS 0 x c = x := rfl
theorem orS_n {e : Int} {x c : Cs} (h : e ≠ 0) : orS e x c = c := by unfold orS; rw [if_neg h]
theorem loadE_4 {c : Cs} {i m : Nat} (h : c.turves.length ≤ i) : loadE c i m = 4 := by unfold loadE; rw [if_pos h]
theorem loadE_1 {c : Cs} {i m : Nat} (h : ¬ c.turves.length ≤ i) (hm : m = 0) : loadE c i m = 1 := by unfold loadE; rw [if_neg h, if_pos hm]
theorem loadE_11 {c : Cs} {i m : Nat} (h : ¬ c.turves.length ≤ i) (hm : ¬ m = 0) (hl : ata c.turves i < m) : loadE c i m = 11 := by unfold loadE; rw [if_neg h, if_neg hm, if_pos hl]
theorem loadE_y {c : Cs} {i m : Nat} (h : ¬ c.turves.length ≤ i) (hm : ¬ m = 0) (hl : ¬ ata c.turves i < m) : loadE c i m = 0 := by unfold loadE; rw [if_neg h, if_neg hm, if_neg hl]
set_option maxHeartbeats 1000000 in
theorem f153 (b : Bg) (h : Hp) (n : Int) (c : Cs) (s : Int) (i m : Nat) (F : Fn b h n) (ok : CsOk b h n c) (hi : i < 1000) (hm : m < 1000) : ACallsG Tryz.prog 153 [.pt 100001 0 0, .pt 100000 0 0, .dv (i64 (i : Int)), .dv (i64 (m : Int))] (mkB (three b h n c c s)) ⟨[.dv (errD (loadE c i m))], mkB (three b h n c (orS (loadE c i m) (loadS c i m) c) s)⟩ := by
  have hld := ok.ldb
  have hl0 := ok.ld0
  have hmo := ok.monb
  have htl := ok.tlen
  have h5 := F.vh.n5
  have htb : ∀ j, j < c.turves.length → 0 ≤ ata c.turves j ∧ ata c.turves j ≤ 30 := fun j hj => (ok.t30 F.vh).bd j (by omega)
  refine callsG_of Tryz.func153 rfl rfl (by rw [Tryz.ntmps153]; simp) fun cx hP hn hg => ?_
  rw [Tryz.ntmps153] at hn
  refine startG ?_
  refine awp_seq ?_
  refine rg ?_
  refine qv m_as ?_
  show AWp cx _ _ _
  refine awp_seq ?_
  refine awp_block ?_
  refine awp_seq ?_
  refine rg ?_
  refine qv m_mv ?_
  refine qv m_mv ?_
  refine qv m_nc ?_
  refine qv (m_fdp fd98_2) ?_
  refine qv (m_ldp sz25 ag25) ?_
  refine qv (m_len il25) ?_
  refine qv m_geq ?_
  refine qv m_as ?_
  show AWp cx _ _ _
  refine cd (fun hc0 => ?_) (fun hc0 => ?_)
  · try simp at hc0
    refine awp_seq ?_
    refine rg ?_
    refine qv (m_bld pl133 ze133) ?_
    refine q_ifc ⟨_, Tryz.underlying133, by intro ms; nofun⟩ ?_
    refine qv m_as ?_
    show AWp cx _ _ _
    refine awp_ret ?_
    rw [show loadE c i m = _ from loadE_4 (by omega)]
    rw [errD_n (by decide), orS_n (by decide)]
    exact xg [(100000, 100000), (100001, 100001), (100002, 100002)]
  · try simp at hc0
    refine awp_seq ?_
    refine rg ?_
    refine qv m_mv ?_
    refine qv m_eql ?_
    refine qv m_as ?_
    show AWp cx _ _ _
    refine cd (fun hc1 => ?_) (fun hc1 => ?_)
    · try simp at hc1
      refine awp_seq ?_
      refine rg ?_
      refine qv (m_bld pl133 ze133) ?_
      refine q_ifc ⟨_, Tryz.underlying133, by intro ms; nofun⟩ ?_
      refine qv m_as ?_
      show AWp cx _ _ _
      refine awp_ret ?_
      rw [show loadE c i m = _ from loadE_1 (by omega) (by omega)]
      rw [errD_n (by decide), orS_n (by decide)]
      exact xg [(100000, 100000), (100001, 100001), (100002, 100002)]
    · try simp at hc1
      refine awp_seq ?_
      refine rg ?_
      refine qv m_mv ?_
      refine qv m_nc ?_
      refine qv (m_fdp fd98_2) ?_
      refine qv (m_ldp sz25 ag25) ?_
      have hit : i < c.turves.length := by omega
      have hgt := ata_get hit
      have hgb := htb i hit
      refine qv m_mv ?_
      first | refine qv (m_ixN el25 sz3) ?_ | refine qv (m_ix el25 sz3) ?_
      refine qv (m_ld sz3 ag3) ?_
      refine qv m_mv ?_
      refine qv m_lss ?_
      refine qv m_as ?_
      show AWp cx _ _ _
      refine cd (fun hc2 => ?_) (fun hc2 => ?_)
      · try simp at hc2
        refine awp_seq ?_
        refine rg ?_
        refine qv (m_bld pl133 ze133) ?_
        refine q_ifc ⟨_, Tryz.underlying133, by intro ms; nofun⟩ ?_
        refine qv m_as ?_
        show AWp cx _ _ _
        refine awp_ret ?_
        rw [show loadE c i m = _ from loadE_11 (by omega) (by omega) (by omega)]
        rw [errD_n (by decide), orS_n (by decide)]
        exact xg [(100000, 100000), (100001, 100001), (100002, 100002)]
      · try simp at hc2
        refine awp_skip ?_
        show AWp cx _ _ _
        refine awp_seq ?_
        refine rg ?_
        refine qv m_mv ?_
        refine qv m_mv ?_
        refine qv m_nc ?_
        refine qv (m_fdp fd98_2) ?_
        refine qv (m_ldp sz25 ag25) ?_
        refine qqF (f97 c.turves (by omega)) ?_
        refine qv m_nc ?_
        refine qv (m_fdp fd98_2) ?_
        refine qs (m_st sz25) ?_
        show AWp cx _ _ _
        refine awp_seq ?_
        refine rg ?_
        refine qv m_mv ?_
        refine qv m_nc ?_
        refine qv (m_fdp fd98_2) ?_
        refine qv (m_ldp sz25 ag25) ?_
        refine qv m_mv ?_
        refine qv (m_ixR el25 sz3) ?_
        first | refine qv (m_ldI sz3 ag3) ?_ | refine qv (m_ldp sz3 ag3) ?_
        refine qv m_mv ?_
        refine qv m_sub ?_
        refine qv (m_ixR el25 sz3) ?_
        first | refine qs (m_stI sz3) ?_ | refine qs (m_st sz3) ?_
        show AWp cx _ _ _
        refine awp_seq ?_
        refine rg ?_
        refine qv m_mv ?_
        refine qv m_nc ?_
        refine qv (m_fdp fd98_6) ?_
        refine qv (m_ldp sz3 ag3) ?_
        refine qv m_mv ?_
        refine qv m_add ?_
        refine qv m_nc ?_
        refine qv (m_fdp fd98_6) ?_
        refine qs (m_st sz3) ?_
        show AWp cx _ _ _
        refine awp_seq ?_
        refine rg ?_
        refine qv m_mv ?_
        refine qv m_nc ?_
        refine qv (m_fdp fd98_4) ?_
        refine qv (m_ldp sz3 ag3) ?_
        refine qv m_mv ?_
        refine qv m_add ?_
        refine qv m_nc ?_
        refine qv (m_fdp fd98_4) ?_
        refine qs (m_st sz3) ?_
        show AWp cx _ _ _
        refine awp_seq ?_
        refine rg ?_
        refine qv m_as ?_
        show AWp cx _ _ _
        refine awp_frz 41 ?_
        refine awp_ret ?_
        rw [show loadE c i m = 0 from loadE_y (by omega) (by omega) (by omega)]
        rw [errD_0, orS_0]
        exact xg [(100000, 100000), (100001, 100001), (100002, 100002)] (h2 := by
          simp [MLe, blkLe, svLes, svLe, isLive, tauL, mkB, mkM, frzF, svLes_ints, svLes_self, svLes_txs, isDvs, isDvs_map, isDvs_app, isDvs_take, isDvs_set, isDvs_repl, OwS, loadS]
          exact data_ints (L := c.turves.set i (ata c.turves i - m)) rfl rfl (by simp) rfl (by simp) (fun _ => trivial))
end Go.Ab.Tryz
set_option linter.all false
namespace Go.Ab.Tryz
open Go Go.Ab Go.Proofs Go.Ab.Moss Go.Ab.Bog
open Go.Ab.Heap (ata ata_get ata_set)
open Go.Ab.Heap (Hp dHp validate sm)
theorem layE_4 {b : Bg} {c : Cs} {r k : Nat} (h : b.dep ≤ r ∨ b.worth.length ≤ k) : layE b c r k = 4 := by unfold layE; rw [if_pos h]
theorem layE_8 {b : Bg} {c : Cs} {r k : Nat} (h : ¬ (b.dep ≤ r ∨ b.worth.length ≤ k)) (h2 : ata c.hollow k ≤ r) : layE b c r k = 8 := by unfold layE; rw [if_neg h, if_pos h2]
theorem layE_5 {b : Bg} {c : Cs} {r k : Nat} (h : ¬ (b.dep ≤ r ∨ b.worth.length ≤ k)) (h2 : ¬ ata c.hollow k ≤ r) (h3 : c.wet.testBit (r * b.worth.length + k) = true) : layE b c r k = 5 := by unfold layE; rw [if_neg h, if_neg h2, if_pos h3]
theorem layE_y {b : Bg} {c : Cs} {r k : Nat} (h : ¬ (b.dep ≤ r ∨ b.worth.length ≤ k)) (h2 : ¬ ata c.hollow k ≤ r) (h3 : c.wet.testBit (r * b.worth.length + k) = false) : layE b c r k = 0 := by unfold layE; rw [if_neg h, if_neg h2, h3]; rfl
theorem and_bit {w k : Nat} : w &&& 2 ^ k = if w.testBit k then 2 ^ k else 0 := by
  apply Nat.eq_of_testBit_eq
  intro i
  rw [Nat.testBit_and, Nat.testBit_two_pow]
  by_cases h : k = i
  · subst h
    cases hw : w.testBit k <;> simp [hw]
  · split <;> simp [h, Nat.testBit_two_pow]
theorem and_sq {w k : Nat} : ((w &&& 2 ^ k : Nat) : Int) ≠ 0 ↔ w.testBit k = true := by
  rw [and_bit]
  have h2 := Nat.two_pow_pos k
  cases hw : w.testBit k with
  | false => simp
  | true =>
    simp only [if_true]
    refine ⟨fun _ => trivial, fun _ => ?_⟩
    generalize 2 ^ k = z at h2
    omega
theorem coC_eq {b : Bg} {h : Hp} {n : Int} {c : Cs} {s : Int} {q : Nat} : coC b h n c s q = (coD b h n c s).map .dv ++ [.sl q 0 0 c.orders.length] := rfl
theorem data_co {M : Nat → Nat × Option Blk} {b : Bg} {h : Hp} {n : Int} {c : Cs} {s : Int} {q st t g : Nat} (hM : M t = (g, some (coB b h n c s q st))) : Borrow M (.pt t g 0) (.cptr (coD b h n c s)) := by
  refine .pt t g 0 _ _ (fun j => .dv ((coD b h n c s).getD j default)) hM trivial (fun j c' hj => ?_) fun j c' hj => ?_
  · have hl := (List.getElem?_eq_some_iff.1 hj).1
    have e : (coD b h n c s).getD j default = c' := by simp [hj]
    rw [e]
    show (coC b h n c s q)[0 + j]? = _
    rw [coC_eq, Nat.zero_add, List.getElem?_append_left (by simpa using hl), List.getElem?_map, hj]
    rfl
  · have : (coD b h n c s).getD j default = c' := by simp [hj]
    rw [this]
    exact .dv c' trivial
set_option maxHeartbeats 1000000 in
theorem f154 (b : Bg) (h : Hp) (n : Int) (c : Cs) (s : Int) (r k : Nat) (F : Fn b h n) (ok : CsOk b h n c) (hr : r < 1000) (hk : k < 1000) : ACallsG Tryz.prog 154 [.pt 100001 0 0, .pt 100000 0 0, .dv (i64 (r : Int)), .dv (i64 (k : Int))] (mkB (three b h n c c s)) ⟨[.dv (errD (layE b c r k))], mkB (three b h n c (orS (layE b c r k) (layS b c r k) c) s)⟩ := by
  have hwf := ok.wet n
  have hw36 := full_lt F.mn
  have hhl := ok.hol.len
  have hbd := ok.hol.bd
  have hn6 := F.bg.n6
  have hd4 := F.bg.d4
  refine callsG_of Tryz.func154 rfl rfl (by rw [Tryz.ntmps154]; simp) fun cx hP hn hg => ?_
  rw [Tryz.ntmps154] at hn
  refine startG ?_
  refine awp_seq ?_
  refine rg ?_
  refine qv m_as ?_
  show AWp cx _ _ _
  refine awp_seq ?_
  refine awp_seq ?_
  refine rg ?_
  refine qv m_mv ?_
  refine qv m_mv ?_
  refine qv m_nc ?_
  refine qv (m_fdp fd100_3) ?_
  refine qv (m_fdp fd65_0) ?_
  refine qv (m_ldp sz3 ag3) ?_
  refine qv m_geq ?_
  refine qx m_mv (fun hg16 => ?_) (fun hg16 => ?_)
  · try simp at hg16
    refine qk ?_
    refine qk ?_
    refine qk ?_
    refine qk ?_
    refine qk ?_
    refine qk ?_
    refine qk ?_
    refine qv m_pk ?_
    show AWp cx _ _ _
    refine cdT (hb := by first | rfl | simp | simp_all) (ht := ?_)
    refine awp_seq ?_
    refine rg ?_
    refine qv (m_bld pl133 ze133) ?_
    refine q_ifc ⟨_, Tryz.underlying133, by intro ms; nofun⟩ ?_
    refine qv m_as ?_
    show AWp cx _ _ _
    refine awp_ret ?_
    rw [show layE b c r k = _ from layE_4 (by omega)]
    rw [errD_n (by decide), orS_n (by decide)]
    exact xg [(100000, 100000), (100001, 100001), (100002, 100002)]
  · try simp at hg16
    refine qv m_mv ?_
    refine qv m_mv ?_
    refine qv m_nc ?_
    refine qv (m_fdp fd100_3) ?_
    refine qv (m_fdp fd65_1) ?_
    refine qv (m_ldp sz3 ag3) ?_
    refine qv m_geq ?_
    refine qv m_pk ?_
    show AWp cx _ _ _
    refine cd (fun hc0 => ?_) (fun hc0 => ?_)
    · try simp at hc0
      refine awp_seq ?_
      refine rg ?_
      refine qv (m_bld pl133 ze133) ?_
      refine q_ifc ⟨_, Tryz.underlying133, by intro ms; nofun⟩ ?_
      refine qv m_as ?_
      show AWp cx _ _ _
      refine awp_ret ?_
      rw [show layE b c r k = _ from layE_4 (by omega)]
      rw [errD_n (by decide), orS_n (by decide)]
      exact xg [(100000, 100000), (100001, 100001), (100002, 100002)]
    · try simp at hc0
      refine awp_skip ?_
      show AWp cx _ _ _
      refine awp_seq ?_
      refine awp_seq ?_
      refine rg ?_
      refine qv m_mv ?_
      refine qv m_mv ?_
      refine qv m_nc ?_
      refine qv (m_fdp fd98_1) ?_
      refine qv (m_ldp sz25 ag25) ?_
      have hkt : k < c.hollow.length := by omega
      have hgt := ata_get hkt
      have hgb := hbd k hkt
      refine qv m_mv ?_
      first | refine qv (m_ixN el25 sz3) ?_ | refine qv (m_ix el25 sz3) ?_
      refine qv (m_ld sz3 ag3) ?_
      refine qv m_geq ?_
      show AWp cx _ _ _
      refine cd (fun hc1 => ?_) (fun hc1 => ?_)
      · try simp at hc1
        refine awp_seq ?_
        refine rg ?_
        refine qv (m_bld pl133 ze133) ?_
        refine q_ifc ⟨_, Tryz.underlying133, by intro ms; nofun⟩ ?_
        refine qv m_as ?_
        show AWp cx _ _ _
        refine awp_ret ?_
        rw [show layE b c r k = _ from layE_8 (by omega) (by omega)]
        rw [errD_n (by decide), orS_n (by decide)]
        exact xg [(100000, 100000), (100001, 100001), (100002, 100002)]
      · try simp at hc1
        refine awp_skip ?_
        show AWp cx _ _ _
        refine awp_seq ?_
        refine awp_seq ?_
        refine rd mixed ?_
        refine zv m_mv ?_
        refine zv m_nc ?_
        refine zv (m_fdp fd98_3) ?_
        refine zv (m_ldp sz3 ag3) ?_
        refine zv m_mv ?_
        refine zv m_mv ?_
        refine zv m_mv ?_
        refine zqF (R := [100001]) (f90 b F.bg h n c s r k (by omega) (by omega)) ?_ (ha := (args_cons (data_co (by (first | (simp only [mkM, reduceIte, Nat.reduceEqDiff] <;> rfl) | (simp [rst, mkM] <;> rfl)))) (args_cons data_dv (args_cons data_dv args_nil))))
        refine zv (m_andS (ha := by omega) (hb := by have := sq_lt F.bg (r := r) (k := k) (by omega) (by omega); omega)) ?_
        refine zv m_neq ?_
        refine ⟨by rfl, ?_⟩
        show AWp cx _ _ _
        refine cd (fun hc2 => ?_) (fun hc2 => ?_)
        · skip
          refine awp_seq ?_
          refine rg ?_
          refine qv (m_bld pl133 ze133) ?_
          refine q_ifc ⟨_, Tryz.underlying133, by intro ms; nofun⟩ ?_
          refine qv m_as ?_
          show AWp cx _ _ _
          refine awp_ret ?_
          rw [show layE b c r k = _ from layE_5 (by omega) (by omega) (and_sq.1 (by simpa [sqN] using hc2))]
          rw [errD_n (by decide), orS_n (by decide)]
          exact xg [(100000, 100000), (100001, 100001), (100002, 100002)]
        · skip
          refine awp_skip ?_
          show AWp cx _ _ _
          refine awp_seq ?_
          refine rd mixed ?_
          refine zv m_mv ?_
          refine zv m_nc ?_
          refine zv (m_fdp fd98_3) ?_
          refine zv (m_ldp sz3 ag3) ?_
          refine zv m_mv ?_
          refine zv m_mv ?_
          refine zv m_mv ?_
          refine zqF (R := [100001]) (f90 b F.bg h n c s r k (by omega) (by omega)) ?_ (ha := (args_cons (data_co (by (first | (simp only [mkM, reduceIte, Nat.reduceEqDiff] <;> rfl) | (simp [rst, mkM] <;> rfl)))) (args_cons data_dv (args_cons data_dv args_nil))))
          refine zv (m_orS (ha := by omega) (hb := by have := sq_lt F.bg (r := r) (k := k) (by omega) (by omega); omega)) ?_
          refine zv m_nc ?_
          refine zv (m_fdp fd98_3) ?_
          refine zs (m_st sz3) ?_
          refine ⟨by rfl, ?_⟩
          show AWp cx _ _ _
          refine awp_seq ?_
          refine rg ?_
          refine qv m_as ?_
          show AWp cx _ _ _
          refine awp_ret ?_
          rw [show layE b c r k = 0 from layE_y (by omega) (by omega) (by cases hq : c.wet.testBit (r * b.worth.length + k) with
            | false => rfl
            | true => exact absurd (and_sq.2 hq) (by simpa [sqN] using hc2))]
          rw [errD_0, orS_0]
          exact xg [(100000, 100000), (100001, 100001), (100002, 100002)] (h2 := by simp [MLe, blkLe, svLes, svLe, isLive, tauL, mkB, mkM, frzF, svLes_ints, svLes_self, svLes_txs, isDvs, isDvs_map, isDvs_app, isDvs_take, isDvs_set, isDvs_repl, OwS, layS, sqN])
end Go.Ab.Tryz
set_option linter.all false
namespace Go.Ab.Tryz
open Go Go.Ab Go.Proofs Go.Ab.Moss Go.Ab.Bog
open Go.Ab.Heap (ata ata_get ata_set)
open Go.Ab.Heap (Hp dHp validate sm)
theorem digE_4 {b : Bg} {c : Cs} {k : Nat} (h : b.worth.length ≤ k) : digE b c k = 4 := by unfold digE; rw [if_pos h]
theorem digE_8 {b : Bg} {c : Cs} {k : Nat} (h : ¬ b.worth.length ≤ k) (h2 : c.shut = true) : digE b c k = 8 := by unfold digE; rw [if_neg h, if_pos h2]
theorem digE_6 {b : Bg} {c : Cs} {k : Nat} (h : ¬ b.worth.length ≤ k) (h2 : c.shut = false) (h3 : (!openB b c.hollow k || aboveB b c k) = true) : digE b c k = 6 := by unfold digE; rw [if_neg h, if_neg (by simp [h2]), if_pos h3]
theorem digE_y {b : Bg} {c : Cs} {k : Nat} (h : ¬ b.worth.length ≤ k) (h2 : c.shut = false) (h3 : openB b c.hollow k = true) (h4 : aboveB b c k = false) : digE b c k = 0 := by unfold digE; rw [if_neg h, if_neg (by simp [h2]), if_neg (by simp [h3, h4])]
theorem ns_has {p : Nat → Bool} {n k : Nat} : (ns ((List.range n).filter p)).contains (k : Int) = (decide (k < n) && p k) := by
  rw [Bool.eq_iff_iff, List.contains_iff_mem, ns, List.mem_map]
  simp only [List.mem_filter, List.mem_range, Bool.and_eq_true, decide_eq_true_eq]
  constructor
  · rintro ⟨j, ⟨h1, h2⟩, h3⟩
    have : j = k := by omega
    subst this; exact ⟨h1, h2⟩
  · rintro ⟨h1, h2⟩
    exact ⟨k, ⟨h1, h2⟩, rfl⟩
theorem open_has {b : Bg} {h : Hp} {n : Int} {c : Cs} (ok : CsOk b h n c) {k : Nat} (hk : k < b.worth.length) : (openE b c.hollow).contains (k : Int) = openB b c.hollow k := by
  unfold openE openL
  rw [if_pos ok.hol0, ns_has]
  have : k < c.hollow.length := by rw [ok.hol.len]; exact hk
  simp [this]
theorem openE_len {b : Bg} {l : List Int} (h : l.length ≤ 6) : (openE b l).length ≤ 6 := by
  unfold openE openL
  split
  · have := filt_len (p := openB b l) (k := l.length)
    rw [ns_len]; omega
  · simp
theorem openB_d {b : Bg} {l : List Int} {k : Nat} (h : openB b l k = true) : ata l k + 1 ≤ b.dep := by
  unfold openB at h
  simp only [Bool.and_eq_true, decide_eq_true_eq] at h
  exact h.1
theorem above_s {b : Bg} {c : Cs} {k q : Nat} (h : ata c.hollow k = ((q + 1 : Nat) : Int)) : aboveB b c k = c.wet.testBit (q * b.worth.length + k) := by
  unfold aboveB
  rw [h, Int.toNat_natCast, decide_eq_true (by omega : (0 : Int) < ((q + 1 : Nat) : Int)), Bool.true_and, Nat.add_sub_cancel]
theorem above_0 {b : Bg} {c : Cs} {k : Nat} (h : ¬ 0 < ata c.hollow k) : aboveB b c k = false := by
  unfold aboveB
  rw [decide_eq_false h]; rfl
theorem drop_it {b : Bg} {h : Hp} {n : Int} {c : Cs} (F : Fn b h n) (ok : CsOk b h n c) {k : Nat} (hk : k < b.worth.length) : H.dropR h c.turves (k : Int) = (Go.Ab.Heap.stl h (H.bump c.turves k), sm (ata (Go.Ab.Heap.stlT h (H.bump c.turves k))) h.ground.length, 0) :=
  H.drop_ok (H.one_of (ok.chk F) (by rw [F.len]; exact hk))
set_option maxHeartbeats 4000000 in
set_option maxRecDepth 100000 in
theorem f152 (b : Bg) (h : Hp) (n : Int) (c : Cs) (s : Int) (k : Nat) (F : Fn b h n) (ok : CsOk b h n c) (hk : k < 1000) : ACallsG Tryz.prog 152 [.pt 100001 0 0, .pt 100000 0 0, .dv (i64 (k : Int))] (mkB (three b h n c c s)) ⟨[.dv (errD (digE b c k))], mkB (three b h n c (orS (digE b c k) (digS b h c k) c) s)⟩ := by
  have hwf := ok.wet n
  have hw36 := full_lt F.mn
  have hhl := ok.hol.len
  have hbd := ok.hol.bd
  have hn6 := F.bg.n6
  have hd4 := F.bg.d4
  have hmo := ok.monb
  have hcu := ok.cutb
  have hh0 := ok.hol0
  have hol := openE_len (b := b) (l := c.hollow) (by omega)
  refine callsG_of Tryz.func152 rfl rfl (by rw [Tryz.ntmps152]; simp) fun cx hP hn hg => ?_
  rw [Tryz.ntmps152] at hn
  refine startG ?_
  refine awp_seq ?_
  refine rg ?_
  refine qv m_as ?_
  show AWp cx _ _ _
  refine awp_seq ?_
  refine awp_seq ?_
  refine rg ?_
  refine qv m_mv ?_
  refine qv m_mv ?_
  refine qv m_nc ?_
  refine qv (m_fdp fd98_1) ?_
  refine qv (m_ldp sz25 ag25) ?_
  refine qv (m_len il25) ?_
  refine qv m_geq ?_
  show AWp cx _ _ _
  refine cd (fun hc0 => ?_) (fun hc0 => ?_)
  · try simp at hc0
    refine awp_seq ?_
    refine rg ?_
    refine qv (m_bld pl133 ze133) ?_
    refine q_ifc ⟨_, Tryz.underlying133, by intro ms; nofun⟩ ?_
    refine qv m_as ?_
    show AWp cx _ _ _
    refine awp_ret ?_
    rw [show digE b c k = _ from digE_4 (by omega)]
    rw [errD_n (by decide), orS_n (by decide)]
    exact xg [(100000, 100000), (100001, 100001), (100002, 100002)]
  · try simp at hc0
    refine awp_skip ?_
    show AWp cx _ _ _
    refine awp_seq ?_
    refine awp_seq ?_
    refine rg ?_
    refine qv m_mv ?_
    refine qv m_nc ?_
    refine qv (m_fdp fd98_7) ?_
    refine qv (m_ldp sz4 ag4) ?_
    show AWp cx _ _ _
    refine cd (fun hc1 => ?_) (fun hc1 => ?_)
    · try simp at hc1
      refine awp_seq ?_
      refine rg ?_
      refine qv (m_bld pl133 ze133) ?_
      refine q_ifc ⟨_, Tryz.underlying133, by intro ms; nofun⟩ ?_
      refine qv m_as ?_
      show AWp cx _ _ _
      refine awp_ret ?_
      rw [show digE b c k = _ from digE_8 (by omega) (by simpa using hc1)]
      rw [errD_n (by decide), orS_n (by decide)]
      exact xg [(100000, 100000), (100001, 100001), (100002, 100002)]
    · try simp at hc1
      refine awp_skip ?_
      show AWp cx _ _ _
      refine awp_seq ?_
      refine rd mixed ?_
      refine zv m_mv ?_
      refine zv m_nc ?_
      refine zv (m_fdp fd100_1) ?_
      refine zv (m_ldpa sz24 ag24) ?_
      refine zv m_mv ?_
      refine zv m_nc ?_
      refine zv (m_fdp fd98_1) ?_
      refine zv (m_ldp sz25 ag25) ?_
      refine zqF (R := []) (f183 b c.hollow) ?_
      refine zv m_mv ?_
      refine zv m_ext ?_
      refine zv m_ext ?_
      refine zv m_as ?_
      refine zv m_as ?_
      refine ⟨by rfl, ?_⟩
      show AWp cx _ _ _
      refine awp_seq ?_
      refine awp_seq ?_
      refine rg ?_
      refine qv m_mv ?_
      refine qv m_neq ?_
      show AWp cx _ _ _
      refine cdF (hb := (by simp [hh0])) (ht := ?_)
      refine awp_skip ?_
      show AWp cx _ _ _
      refine awp_seq ?_
      refine rg ?_
      refine qv m_mv ?_
      refine qv m_nc ?_
      refine qv (m_fdp fd98_1) ?_
      refine qv (m_ldp sz25 ag25) ?_
      have hkt : k < c.hollow.length := by omega
      have hgt := ata_get hkt
      have hgb := hbd k hkt
      obtain ⟨r, hr⟩ : ∃ r : Nat, ata c.hollow k = r := ⟨(ata c.hollow k).toNat, by omega⟩
      have hcon := open_has ok (k := k) (by omega)
      have hdr := drop_it F ok (k := k) (by omega)
      have hbl := H.stl_len (h := h) (a := H.bump c.turves k)
      rw [hr] at hgt hgb
      refine qv m_mv ?_
      first | refine qv (m_ixN el25 sz3) ?_ | refine qv (m_ix el25 sz3) ?_
      refine qv (m_ld sz3 ag3) ?_
      refine qv m_as ?_
      show AWp cx _ _ _
      refine awp_seq ?_
      refine awp_seq ?_
      refine rd mixed ?_
      refine zv m_mv ?_
      refine zv m_mv ?_
      refine zqF (R := [36]) (f184 (openE b c.hollow) (k : Int) (by omega)) ?_ (ha := (args_cons (data_ints (L := openE b c.hollow) (by (first | (simp only [mkM, reduceIte, Nat.reduceEqDiff] <;> rfl) | (simp [rst, mkM] <;> rfl))) trivial rfl rfl rfl (fun _ => trivial)) (args_cons data_dv args_nil)))
      refine zv m_not ?_
      refine zx m_mv (fun hg55 => ?_) (fun hg55 => ?_)
      · try simp at hg55
        refine zk ?_
        refine zk ?_
        refine zk ?_
        refine zk ?_
        refine zk ?_
        refine zk ?_
        refine zk ?_
        refine zk ?_
        refine zk ?_
        refine zk ?_
        refine zk ?_
        refine zk ?_
        refine zk ?_
        refine zk ?_
        refine zk ?_
        refine zv m_pk ?_
        refine ⟨by rfl, ?_⟩
        show AWp cx _ _ _
        refine cdT (hb := by first | rfl | simp | simp_all) (ht := ?_)
        refine awp_seq ?_
        refine rg ?_
        refine qv (m_bld pl133 ze133) ?_
        refine q_ifc ⟨_, Tryz.underlying133, by intro ms; nofun⟩ ?_
        refine qv m_as ?_
        show AWp cx _ _ _
        refine awp_ret ?_
        rw [show digE b c k = _ from digE_6 (by omega) (by simpa using hc1) (by
          first
          | (rw [hab, Bool.or_true]; done)
          | (rw [show openB b c.hollow k = false by rw [← hcon]; simpa using hg55]; rfl))]
        rw [errD_n (by decide), orS_n (by decide)]
        exact xg [(100000, 100000), (100001, 100001), (100002, 100002)]
      · try simp at hg55
        have hop : openB b c.hollow k = true := by rw [← hcon]; simpa using hg55
        refine zv m_mv ?_
        refine zv m_gtr ?_
        refine zx m_mv (fun hg58 => ?_) (fun hg58 => ?_)
        · try simp at hg58
          refine zv m_mv ?_
          refine zv m_nc ?_
          refine zv (m_fdp fd98_3) ?_
          refine zv (m_ldp sz3 ag3) ?_
          refine zv m_mv ?_
          refine zv m_mv ?_
          refine zv m_sub ?_
          refine zv m_mv ?_
          obtain ⟨q, hq⟩ : ∃ q, r = q + 1 := ⟨r - 1, by omega⟩
          rw [show ((r : Int) - 1) = ((q : Nat) : Int) by omega]
          have hsq := sq_lt F.bg (r := q) (k := k) (by omega) (by omega)
          refine zqF (R := [100001]) (f90 b F.bg h n c s q k (by omega) (by omega)) ?_ (ha := (args_cons (data_co (by (first | (simp only [mkM, reduceIte, Nat.reduceEqDiff] <;> rfl) | (simp [rst, mkM] <;> rfl)))) (args_cons data_dv (args_cons data_dv args_nil))))
          refine zv (m_andS (ha := by omega) (hb := by omega)) ?_
          refine zv m_neq ?_
          refine zv m_pk ?_
          refine zv m_pk ?_
          refine ⟨by rfl, ?_⟩
          show AWp cx _ _ _
          refine cd (fun hc3 => ?_) (fun hc3 => ?_)
          · skip
            have hab : aboveB b c k = true := by rw [above_s (q := q) (by rw [hr, hq])]; exact and_sq.1 (by simpa [sqN] using hc3)
            refine awp_seq ?_
            refine rg ?_
            refine qv (m_bld pl133 ze133) ?_
            refine q_ifc ⟨_, Tryz.underlying133, by intro ms; nofun⟩ ?_
            refine qv m_as ?_
            show AWp cx _ _ _
            refine awp_ret ?_
            rw [show digE b c k = _ from digE_6 (by omega) (by simpa using hc1) (by
              first
              | (rw [hab, Bool.or_true]; done)
              | (rw [show openB b c.hollow k = false by rw [← hcon]; simpa using hg55]; rfl))]
            rw [errD_n (by decide), orS_n (by decide)]
            exact xg [(100000, 100000), (100001, 100001), (100002, 100002)]
          · skip
            have hna : aboveB b c k = false := by
              rw [above_s (q := q) (by rw [hr, hq])]
              cases hw : c.wet.testBit (q * b.worth.length + k) with
              | false => rfl
              | true => exact absurd (and_sq.2 hw) (by simpa [sqN] using hc3)
            refine awp_skip ?_
            show AWp cx _ _ _
            refine awp_seq ?_
            refine rd mixed ?_
            have hna : aboveB b c k = false := by first | assumption | exact above_0 (by rw [hr]; omega)
            refine zv m_mv ?_
            refine zv m_nc ?_
            refine zv (m_fdp fd100_2) ?_
            refine zv (m_ldpa sz27 ag27) ?_
            refine zv m_mv ?_
            refine zv m_nc ?_
            refine zv (m_fdp fd98_2) ?_
            refine zv (m_ldp sz25 ag25) ?_
            refine zv m_mv ?_
            refine zqF (R := []) (H.f185 h c.turves (k : Int)) ?_
            refine zv m_mv ?_
            refine zv m_ext ?_
            refine zv m_ext ?_
            refine zv m_ext ?_
            refine zv m_as ?_
            refine zv m_as ?_
            refine zv m_as ?_
            refine ⟨by rfl, ?_⟩
            show AWp cx _ _ _
            refine awp_seq ?_
            refine awp_seq ?_
            refine rg ?_
            refine qv m_mv ?_
            refine qv m_neq ?_
            show AWp cx _ _ _
            refine cdF (hb := (by simp [hdr])) (ht := ?_)
            refine awp_skip ?_
            show AWp cx _ _ _
            refine awp_seq ?_
            refine rg ?_
            refine qv m_mv ?_
            refine qv m_mv ?_
            refine qv m_nc ?_
            refine qv (m_fdp fd98_1) ?_
            refine qv (m_ldp sz25 ag25) ?_
            refine qqF (f97 c.hollow (by omega)) ?_
            refine qv m_nc ?_
            refine qv (m_fdp fd98_1) ?_
            refine qs (m_st sz25) ?_
            show AWp cx _ _ _
            refine awp_seq ?_
            refine rg ?_
            refine qv m_mv ?_
            refine qv m_nc ?_
            refine qv (m_fdp fd98_1) ?_
            refine qv (m_ldp sz25 ag25) ?_
            refine qv m_mv ?_
            refine qv (m_ixR el25 sz3) ?_
            first | refine qv (m_ldI sz3 ag3) ?_ | refine qv (m_ldp sz3 ag3) ?_
            refine qv m_add ?_
            refine qv (m_ixR el25 sz3) ?_
            first | refine qs (m_stI sz3) ?_ | refine qs (m_st sz3) ?_
            show AWp cx _ _ _
            refine awp_seq ?_
            refine rg ?_
            refine qv m_mv ?_
            refine qv m_mv ?_
            refine qv m_nc ?_
            refine qv (m_fdp fd98_2) ?_
            refine qs (m_st sz25) ?_
            show AWp cx _ _ _
            refine awp_seq ?_
            refine rd mixed ?_
            refine zv m_mv ?_
            refine zv m_nc ?_
            refine zv (m_fdp fd98_4) ?_
            refine zv (m_ldp sz3 ag3) ?_
            refine zv m_mv ?_
            refine zv m_nc ?_
            refine zv (m_fdp fd100_1) ?_
            refine zv (m_fdp fd24_0) ?_
            refine zv (m_ldp sz22 ag22) ?_
            have hcl := F.bg.len k (by omega)
            have hrd : r < b.dep := by have := openB_d hop; omega
            have hgc := bg_col (b := b) (i := k) (by omega)
            have hge := ata_get (a := b.col k) (i := r) (by omega)
            have hcb := col_ata F.bg (i := k) (j := r) (by omega) hrd
            refine zv m_mv ?_
            first | refine zv (m_ixN el22 sz25) ?_ | refine zv (m_ix el22 sz25) ?_
            refine zv (m_ld sz25 ag25) ?_
            refine zv m_mv ?_
            first | refine zv (m_ixN el25 sz3) ?_ | refine zv (m_ix el25 sz3) ?_
            refine zv (m_ld sz3 ag3) ?_
            refine zv m_add ?_
            refine zv m_nc ?_
            refine zv (m_fdp fd98_4) ?_
            refine zs (m_st sz3) ?_
            refine ⟨by rfl, ?_⟩
            show AWp cx _ _ _
            refine awp_seq ?_
            refine rg ?_
            refine qv m_mv ?_
            refine qv m_nc ?_
            refine qv (m_fdp fd98_5) ?_
            refine qv (m_ldp sz3 ag3) ?_
            refine qv m_add ?_
            refine qv m_nc ?_
            refine qv (m_fdp fd98_5) ?_
            refine qs (m_st sz3) ?_
            show AWp cx _ _ _
            refine awp_seq ?_
            refine rg ?_
            refine qv m_as ?_
            show AWp cx _ _ _
            refine awp_frz 98 ?_
            refine awp_frz 84 ?_
            refine awp_ret ?_
            rw [show digE b c k = 0 from digE_y (by omega) (by simpa using hc1) hop hna]
            rw [errD_0, orS_0]
            exact xg [(100000, 100000), (100001, 100001), (100002, 100002)] (h2 := by
              simp [MLe, blkLe, svLes, svLe, isLive, tauL, mkB, mkM, frzF, svLes_ints, svLes_self, svLes_txs, isDvs, isDvs_map, isDvs_app, isDvs_take, isDvs_set, isDvs_repl, OwS, digS, hr]
              exact ⟨data_ints (L := dug c.hollow k) rfl rfl (by first | rfl | (simp; done) | (simp [hdr]; done) | (simp [dug, hr, hdr]; done)) rfl (by first | rfl | (simp; done) | (simp [hdr]; done) | (simp [dug, hr, hdr]; done)) (fun _ => trivial), data_ints (L := Go.Ab.Heap.stl h (H.bump c.turves k)) rfl rfl (by first | rfl | (simp; done) | (simp [hdr]; done) | (simp [dug, hr, hdr]; done)) rfl (by first | rfl | (simp; done) | (simp [hdr]; done) | (simp [dug, hr, hdr]; done)) (fun _ => trivial)⟩)
        · try simp at hg58
          refine zk ?_
          refine zk ?_
          refine zk ?_
          refine zk ?_
          refine zk ?_
          refine zk ?_
          refine zk ?_
          refine zk ?_
          refine zk ?_
          refine zk ?_
          refine zk ?_
          refine zv m_pk ?_
          refine zv m_pk ?_
          refine ⟨by rfl, ?_⟩
          show AWp cx _ _ _
          refine cdF (hb := by first | rfl | simp | simp_all) (ht := ?_)
          refine awp_skip ?_
          show AWp cx _ _ _
          refine awp_seq ?_
          refine rd mixed ?_
          have hna : aboveB b c k = false := by first | assumption | exact above_0 (by rw [hr]; omega)
          refine zv m_mv ?_
          refine zv m_nc ?_
          refine zv (m_fdp fd100_2) ?_
          refine zv (m_ldpa sz27 ag27) ?_
          refine zv m_mv ?_
          refine zv m_nc ?_
          refine zv (m_fdp fd98_2) ?_
          refine zv (m_ldp sz25 ag25) ?_
          refine zv m_mv ?_
          refine zqF (R := []) (H.f185 h c.turves (k : Int)) ?_
          refine zv m_mv ?_
          refine zv m_ext ?_
          refine zv m_ext ?_
          refine zv m_ext ?_
          refine zv m_as ?_
          refine zv m_as ?_
          refine zv m_as ?_
          refine ⟨by rfl, ?_⟩
          show AWp cx _ _ _
          refine awp_seq ?_
          refine awp_seq ?_
          refine rg ?_
          refine qv m_mv ?_
          refine qv m_neq ?_
          show AWp cx _ _ _
          refine cdF (hb := (by simp [hdr])) (ht := ?_)
          refine awp_skip ?_
          show AWp cx _ _ _
          refine awp_seq ?_
          refine rg ?_
          refine qv m_mv ?_
          refine qv m_mv ?_
          refine qv m_nc ?_
          refine qv (m_fdp fd98_1) ?_
          refine qv (m_ldp sz25 ag25) ?_
          refine qqF (f97 c.hollow (by omega)) ?_
          refine qv m_nc ?_
          refine qv (m_fdp fd98_1) ?_
          refine qs (m_st sz25) ?_
          show AWp cx _ _ _
          refine awp_seq ?_
          refine rg ?_
          refine qv m_mv ?_
          refine qv m_nc ?_
          refine qv (m_fdp fd98_1) ?_
          refine qv (m_ldp sz25 ag25) ?_
          refine qv m_mv ?_
          refine qv (m_ixR el25 sz3) ?_
          first | refine qv (m_ldI sz3 ag3) ?_ | refine qv (m_ldp sz3 ag3) ?_
          refine qv m_add ?_
          refine qv (m_ixR el25 sz3) ?_
          first | refine qs (m_stI sz3) ?_ | refine qs (m_st sz3) ?_
          show AWp cx _ _ _
          refine awp_seq ?_
          refine rg ?_
          refine qv m_mv ?_
          refine qv m_mv ?_
          refine qv m_nc ?_
          refine qv (m_fdp fd98_2) ?_
          refine qs (m_st sz25) ?_
          show AWp cx _ _ _
          refine awp_seq ?_
          refine rd mixed ?_
          refine zv m_mv ?_
          refine zv m_nc ?_
          refine zv (m_fdp fd98_4) ?_
          refine zv (m_ldp sz3 ag3) ?_
          refine zv m_mv ?_
          refine zv m_nc ?_
          refine zv (m_fdp fd100_1) ?_
          refine zv (m_fdp fd24_0) ?_
          refine zv (m_ldp sz22 ag22) ?_
          have hcl := F.bg.len k (by omega)
          have hrd : r < b.dep := by have := openB_d hop; omega
          have hgc := bg_col (b := b) (i := k) (by omega)
          have hge := ata_get (a := b.col k) (i := r) (by omega)
          have hcb := col_ata F.bg (i := k) (j := r) (by omega) hrd
          refine zv m_mv ?_
          first | refine zv (m_ixN el22 sz25) ?_ | refine zv (m_ix el22 sz25) ?_
          refine zv (m_ld sz25 ag25) ?_
          refine zv m_mv ?_
          first | refine zv (m_ixN el25 sz3) ?_ | refine zv (m_ix el25 sz3) ?_
          refine zv (m_ld sz3 ag3) ?_
          refine zv m_add ?_
          refine zv m_nc ?_
          refine zv (m_fdp fd98_4) ?_
          refine zs (m_st sz3) ?_
          refine ⟨by rfl, ?_⟩
          show AWp cx _ _ _
          refine awp_seq ?_
          refine rg ?_
          refine qv m_mv ?_
          refine qv m_nc ?_
          refine qv (m_fdp fd98_5) ?_
          refine qv (m_ldp sz3 ag3) ?_
          refine qv m_add ?_
          refine qv m_nc ?_
          refine qv (m_fdp fd98_5) ?_
          refine qs (m_st sz3) ?_
          show AWp cx _ _ _
          refine awp_seq ?_
          refine rg ?_
          refine qv m_as ?_
          show AWp cx _ _ _
          refine awp_frz 98 ?_
          refine awp_frz 84 ?_
          refine awp_ret ?_
          rw [show digE b c k = 0 from digE_y (by omega) (by simpa using hc1) hop hna]
          rw [errD_0, orS_0]
          exact xg [(100000, 100000), (100001, 100001), (100002, 100002)] (h2 := by
            simp [MLe, blkLe, svLes, svLe, isLive, tauL, mkB, mkM, frzF, svLes_ints, svLes_self, svLes_txs, isDvs, isDvs_map, isDvs_app, isDvs_take, isDvs_set, isDvs_repl, OwS, digS, hr]
            exact ⟨data_ints (L := dug c.hollow k) rfl rfl (by first | rfl | (simp; done) | (simp [hdr]; done) | (simp [dug, hr, hdr]; done)) rfl (by first | rfl | (simp; done) | (simp [hdr]; done) | (simp [dug, hr, hdr]; done)) (fun _ => trivial), data_ints (L := Go.Ab.Heap.stl h (H.bump c.turves k)) rfl rfl (by first | rfl | (simp; done) | (simp [hdr]; done) | (simp [dug, hr, hdr]; done)) rfl (by first | rfl | (simp; done) | (simp [hdr]; done) | (simp [dug, hr, hdr]; done)) (fun _ => trivial)⟩)
end Go.Ab.Tryz
