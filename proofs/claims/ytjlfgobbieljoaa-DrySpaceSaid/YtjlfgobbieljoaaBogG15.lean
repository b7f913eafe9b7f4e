/- Ab31, Dry32. -/
import Derived.Test.YtjlfgobbieljoaaBogG14
import Derived.Test.YtjlfgobbieljoaaBogG12
import Derived.Test.YtjlfgobbieljoaaBogG10
set_option linter.all false
set_option linter.unusedVariables false
namespace Go.Ab
open Go.RowKit
section
variable {cx : Cx} {S : St} {a : Act} {w : World} {o : Oper}
end
section
variable {cx : Cx} {P : Program} {N : Nat} {ops : Array Oper} {rest : List Oper} {l : List (Nat × SV)} {m m' : List (Nat × Nat × Option Blk)} {K : St → Prop}
  {ty : TypeId} {p : String} {af : Array Edge} {gd : Option (Nat × Bool)} {x : Operand} {t e : TypeId} {tg g off n st : Nat} {k : IntKind} {L : List Int}
end
end Go.Ab
set_option linter.all false
namespace Go.Ab.Try
open Go Go.Ab Go.Proofs
open Go.Ab.Heap (Mat sm sm_congr sgn sgn_succ skp mnr det dbd)
open Go.Ab.Rank
abbrev ns (l : List Nat) : List Int := l.map fun i : Nat => (i : Int)
def mq (m : List (List Int)) (i j : Nat) : Int := (m.getD i []).getD j 0
def trm (m : List (List Int)) (a : Nat) (rs cols : List Nat) (k : Nat) : Int := sgn k * mq m a (cols.getD k 0) * dtL (mq m) rs (cols.eraseIdx k)
theorem erase_skp {l : List Nat} {k j : Nat} : (l.eraseIdx k).getD j 0 = l.getD (skp k j) 0 := by
  unfold skp
  rw [List.getD_eq_getElem?_getD, List.getD_eq_getElem?_getD, List.getElem?_eraseIdx]
  split <;> rfl
theorem dtL_cons {m : List (List Int)} {a : Nat} {rs cols : List Nat} (h : cols.length = rs.length + 1) : dtL (mq m) (a :: rs) cols = sm (trm m a rs cols) cols.length := by
  unfold dtL
  show det (rs.length + 1) _ = _
  rw [h]
  show sm (fun k => sgn k * mq m a (cols.getD k 0) * det rs.length (mnr (fun i j => mq m ((a :: rs).getD i 0) (cols.getD j 0)) k)) (rs.length + 1) = _
  refine sm_congr fun k hk => ?_
  unfold trm dtL
  congr 1
  refine congrArg _ ?_
  funext i j
  show mq m ((a :: rs).getD (i + 1) 0) (cols.getD (skp k j) 0) = mq m (rs.getD i 0) ((cols.eraseIdx k).getD j 0)
  rw [erase_skp]; rfl
theorem dt_bd {m : List (List Int)} (hm : ∀ i j, -3 ≤ mq m i j ∧ mq m i j ≤ 3) (a b : List Nat) : -dbd 3 a.length ≤ dtL (mq m) a b ∧ dtL (mq m) a b ≤ dbd 3 a.length := Go.Ab.Heap.det_bd (by decide) fun i j _ _ => hm _ _
theorem sgn_pm (k : Nat) : sgn k = 1 ∨ sgn k = -1 := by unfold sgn; split <;> simp
theorem trm_bd {m : List (List Int)} (hm : ∀ i j, -3 ≤ mq m i j ∧ mq m i j ≤ 3) {a : Nat} {rs cols : List Nat} (hr : rs.length ≤ 5) (k : Nat) : -1574640 ≤ trm m a rs cols k ∧ trm m a rs cols k ≤ 1574640 := by
  obtain ⟨h1, h2⟩ := dt_bd hm rs (cols.eraseIdx k)
  have h3 := dbd3 (k := rs.length) (by omega)
  obtain ⟨h4, h5⟩ := hm a (cols.getD k 0)
  unfold trm
  generalize dtL (mq m) rs (cols.eraseIdx k) = d at *
  have e : mq m a (cols.getD k 0) = -3 ∨ mq m a (cols.getD k 0) = -2 ∨ mq m a (cols.getD k 0) = -1 ∨ mq m a (cols.getD k 0) = 0 ∨ mq m a (cols.getD k 0) = 1 ∨ mq m a (cols.getD k 0) = 2 ∨ mq m a (cols.getD k 0) = 3 := by omega
  rcases sgn_pm k with hs | hs <;> rw [hs] <;> rcases e with e | e | e | e | e | e | e <;> rw [e] <;> omega
theorem trs_bd {m : List (List Int)} (hm : ∀ i j, -3 ≤ mq m i j ∧ mq m i j ≤ 3) {a : Nat} {rs cols : List Nat} (hr : rs.length ≤ 5) : ∀ k : Nat, -(1574640 * k : Int) ≤ sm (trm m a rs cols) k ∧ sm (trm m a rs cols) k ≤ 1574640 * k
  | 0 => by simp [sm]
  | k + 1 => by
    have h1 := trs_bd hm (a := a) (cols := cols) hr k
    have h2 := trm_bd hm (a := a) (cols := cols) hr k
    simp only [sm]
    push_cast
    omega
theorem f91 (a b : Int) (ha : -1000000000000 ≤ a ∧ a ≤ 1000000000000) (hb : -1000000000000 ≤ b ∧ b ≤ 1000000000000) : ACallsF Try.prog 91 [i64 a, i64 b] (.one (.dv (i64 (Nat.gcd a.natAbs b.natAbs : Nat)))) := by
  refine callsF_of Try.func91 rfl rfl (by rw [Try.ntmps91]; simp) fun cx hP hn hg => ?_
  rw [Try.ntmps91] at hn
  rw [startF_lk, none_mkM]
  simp only [List.nil_append, List.append_nil, List.cons_append, zipSV, Nat.reduceAdd]
  refine awp_seq ?_
  refine rg ?_
  refine qv m_as ?_
  show AWp cx _ _ _
  refine awp_seq ?_
  refine awp_block ?_
  refine awp_loop (ι := Int × Int) (fun s => ⟨lk [(0, .dv (i64 (s.1))), (1, .dv (i64 (s.2)))], mkM []⟩) (fun s => Nat.gcd s.1.natAbs s.2.natAbs = Nat.gcd a.natAbs b.natAbs ∧ (-1000000000000 ≤ s.1 ∧ s.1 ≤ 1000000000000) ∧ (-1000000000000 ≤ s.2 ∧ s.2 ≤ 1000000000000)) (fun s => s.2.natAbs) (a, b) ⟨rfl, ha, hb⟩ (tl []) ?_
  intro ⟨x, z⟩ hφ0
  dsimp only at hφ0 ⊢
  refine awp_seq ?_
  refine awp_seq ?_
  refine rg ?_
  refine qv m_mv ?_
  refine qv m_neq ?_
  show AWp cx _ _ _
  refine cd (fun hc0 => ?_) (fun hc0 => ?_)
  · try simp at hc0
    refine awp_skip ?_
    show AWp cx _ _ _
    refine awp_block ?_
    refine rd mixed ?_
    have hz : z ≠ 0 := by simpa using hc0
    have hmod : (x.tmod z).natAbs < z.natAbs := by rw [Int.natAbs_tmod]; exact Nat.mod_lt _ (by omega)
    have hbd : -1000000000000 ≤ x.tmod z ∧ x.tmod z ≤ 1000000000000 := by omega
    refine zv m_mv ?_
    refine zv m_mv ?_
    refine zv m_mv ?_
    refine zv m_rem ?_
    refine zv m_as ?_
    refine zv m_as ?_
    refine ⟨by rfl, ?_⟩
    exact ⟨(z, x.tmod z), ⟨by rw [← hφ0.1]; show Nat.gcd z.natAbs (x.tmod z).natAbs = _; rw [Int.natAbs_tmod, Nat.gcd_comm x.natAbs, Nat.gcd_rec z.natAbs x.natAbs, Nat.gcd_comm], hφ0.2.2, hbd⟩, (by show (x.tmod z).natAbs < z.natAbs; rw [Int.natAbs_tmod]; exact Nat.mod_lt _ (by omega)), (tl [])⟩
  · try simp at hc0
    refine awp_exit ?_
    show AWp cx _ _ _
    refine awp_seq ?_
    refine rg ?_
    refine qv m_mv ?_
    refine qv m_mv ?_
    refine qv m_neg ?_
    refine qv m_max ?_
    refine qv m_as ?_
    show AWp cx _ _ _
    refine awp_ret ?_
    exact x1 (hr := (rI_ (by rw [← hφ0.1, show z = 0 by simpa using hc0]; simp only [Int.natAbs_zero, Nat.gcd_zero_right]; omega)))
set_option maxHeartbeats 2000000 in
theorem f93_0 (m : List (List Int)) (cols : List Nat) : ACallsF Try.prog 93 [.list (m.map ints), ints (ns []), ints (ns cols)] (.one (.dv (i64 (dtL (mq m) [] cols)))) := by
  refine callsF_of Try.func93 rfl rfl (by rw [Try.ntmps93]; simp) fun cx hP hn hg => ?_
  rw [Try.ntmps93] at hn
  rw [startF_lk, none_mkM]
  simp only [List.nil_append, List.append_nil, List.cons_append, zipSV, Nat.reduceAdd]
  refine awp_seq ?_
  refine rg ?_
  refine qv m_as ?_
  show AWp cx _ _ _
  refine awp_seq ?_
  refine awp_seq ?_
  refine rg ?_
  refine qv m_mv ?_
  refine qv (m_len il25) ?_
  refine qv m_eql ?_
  show AWp cx _ _ _
  refine cdT (hb := (by simp)) (ht := ?_)
  refine awp_seq ?_
  refine rg ?_
  refine qv m_as ?_
  show AWp cx _ _ _
  refine awp_ret ?_
  exact x1 (hr := (rI_ (by simp [dtL, det])))
set_option maxHeartbeats 4000000 in
theorem f93s (m : List (List Int)) (hm : ∀ i j, -3 ≤ mq m i j ∧ mq m i j ≤ 3) (P : Nat) (hw : ∀ r ∈ m, r.length = P) (a : Nat) (rs cols : List Nat) (hl : cols.length = rs.length + 1) (hr : rs.length ≤ 5) (ha : a < m.length) (hc : ∀ j ∈ cols, j < P)
    (hrec : ∀ cs : List Nat, cs.length = rs.length → (∀ j ∈ cs, j < P) → ACallsF Try.prog 93 [.list (m.map ints), ints (ns rs), ints (ns cs)] (.one (.dv (i64 (dtL (mq m) rs cs))))) : ACallsF Try.prog 93 [.list (m.map ints), ints (ns (a :: rs)), ints (ns cols)] (.one (.dv (i64 (dtL (mq m) (a :: rs) cols)))) := by
  have hra : m[a]? = some m[a] := List.getElem?_eq_getElem ha
  have hwa := hw m[a] (List.getElem_mem ha)
  refine callsF_of Try.func93 rfl rfl (by rw [Try.ntmps93]; simp) fun cx hP hn hg => ?_
  rw [Try.ntmps93] at hn
  rw [startF_lk, none_mkM]
  simp only [List.nil_append, List.append_nil, List.cons_append, zipSV, Nat.reduceAdd]
  refine awp_seq ?_
  refine rg ?_
  refine qv m_as ?_
  show AWp cx _ _ _
  refine awp_seq ?_
  refine awp_seq ?_
  refine rg ?_
  refine qv m_mv ?_
  refine qv (m_len il25) ?_
  refine qv m_eql ?_
  show AWp cx _ _ _
  refine cdF (hb := (by simp; omega)) (ht := ?_)
  refine awp_skip ?_
  show AWp cx _ _ _
  refine awp_seq ?_
  refine rg ?_
  refine qv m_as ?_
  refine qv m_as ?_
  show AWp cx _ _ _
  refine awp_seq ?_
  refine awp_seq ?_
  refine rg ?_
  refine qv m_as ?_
  show AWp cx _ _ _
  refine awp_block ?_
  refine awp_loop (ι := Nat) (fun k => ⟨lk [(0, .dv (.list ((m).map ints))), (1, .dv (ints ((ns (a :: rs))))), (2, .dv (ints ((ns cols)))), (7, .dv (i64 (sm (trm m a rs cols) k))), (8, .dv (i64 (sgn k))), (9, .dv (i64 (k : Nat)))], mkM []⟩) (fun k => k ≤ cols.length) (fun k => cols.length - k) 0 (by simp) (tl [] (hF := by simp [FLe, svLe, lk, mkM, isLive, tauL, sm, sgn]) (hM := by simp [MLe, blkLe, svLe, svLes, lk, mkM, isLive, tauL, svLes_ints, svLes_self, isDvs, isDvs_map, isDvs_app, isDvs_take, isDvs_set, isDvs_repl, sm, sgn])) ?_
  intro k hφ0
  refine awp_seq ?_
  refine awp_seq ?_
  refine rg ?_
  refine qv m_mv ?_
  refine qv m_mv ?_
  refine qv (m_len il25) ?_
  refine qv m_lss ?_
  show AWp cx _ _ _
  refine cd (fun hc1 => ?_) (fun hc1 => ?_)
  · try simp at hc1
    refine awp_skip ?_
    show AWp cx _ _ _
    refine awp_seq ?_
    refine awp_block ?_
    refine awp_seq ?_
    refine rd mixed ?_
    have hk : k < cols.length := by omega
    have hgk : (ns cols)[k]? = some ((cols.getD k 0 : Nat) : Int) := by rw [List.getElem?_map, List.getElem?_eq_getElem hk, List.getD_eq_getElem?_getD, List.getElem?_eq_getElem hk]; rfl
    have hck := hc (cols.getD k 0) (by rw [List.getD_eq_getElem?_getD, List.getElem?_eq_getElem hk]; exact List.getElem_mem hk)
    have hel : (cols.eraseIdx k).length = rs.length := by rw [List.length_eraseIdx]; split <;> omega
    have hes : ∀ j ∈ cols.eraseIdx k, j < P := fun j hj => hc j (List.mem_of_mem_eraseIdx hj)
    have hcall := hrec (cols.eraseIdx k) hel hes
    have hmx : m[a][cols.getD k 0]? = some (mq m a (cols.getD k 0)) := by
      have hlt : cols.getD k 0 < m[a].length := by omega
      unfold mq; rw [List.getD_eq_getElem?_getD (l := m), hra]; show m[a][_]? = some (m[a].getD _ 0); rw [List.getD_eq_getElem?_getD (l := m[a]), List.getElem?_eq_getElem hlt]; rfl
    have hb1 := hm a (cols.getD k 0)
    have hb2 := dt_bd hm rs (cols.eraseIdx k)
    have hb3 := dbd3 (k := rs.length) (by omega)
    have hb4 := trm_bd hm (a := a) (cols := cols) hr k
    have hb5 := trs_bd hm (a := a) (cols := cols) hr k
    have hsn : sm (trm m a rs cols) (k + 1) = sm (trm m a rs cols) k + sgn k * mq m a (cols.getD k 0) * dtL (mq m) rs (cols.eraseIdx k) := rfl
    have hsg : sgn (k + 1) = - sgn k := sgn_succ k
    have hpm := sgn_pm k
    have hpb : -3 ≤ sgn k * mq m a (cols.getD k 0) ∧ sgn k * mq m a (cols.getD k 0) ≤ 3 := by rcases hpm with h | h <;> rw [h] <;> omega
    have hpt : sgn k * mq m a (cols.getD k 0) * dtL (mq m) rs (cols.eraseIdx k) = trm m a rs cols k := rfl
    refine zr (m_bsl el25 ze3 sz3) ?_
    refine zv m_mv ?_
    refine zv m_mv ?_
    refine zv (m_cut (L' := ns (cols.take k)) el25 sz3 (hL := by simp)) ?_
    refine za1 (m_app1 el25 el25 ze3 sz3 by3) ?_
    refine zv m_mv ?_
    refine zv m_mv ?_
    refine zv m_add ?_
    refine zv (m_cut (L' := ns (cols.drop (k + 1))) el25 sz3 (hL := by rw [List.take_of_length_le (by simp; omega), show ((k : Int) + 1).toNat = k + 1 by omega]; exact List.map_drop.symm)) ?_
    refine za1 (m_app1 el25 el25 ze3 sz3 by3) ?_
    refine zv m_as ?_
    refine ⟨by rfl, ?_⟩
    show AWp cx _ _ _
    refine awp_seq ?_
    refine rd mixed ?_
    refine zv m_mv ?_
    refine zv m_mv ?_
    refine zv m_mv ?_
    refine zv m_mv ?_
    refine zv (m_ix (q := ((a : Nat) : Int)) el25 sz3 (hq := rfl)) ?_
    refine zv (m_ld sz3 ag3) ?_
    first | refine zv (m_ixN el91 sz25) ?_ | refine zv (m_ix el91 sz25) ?_
    refine zv (m_ld sz25 ag25) ?_
    refine zv m_mv ?_
    refine zv m_mv ?_
    first | refine zv (m_ixN el25 sz3) ?_ | refine zv (m_ix el25 sz3) ?_
    refine zv (m_ld sz3 ag3) ?_
    first | refine zv (m_ixN el25 sz3) ?_ | refine zv (m_ix el25 sz3) ?_
    refine zv (m_ld sz3 ag3) ?_
    refine zv m_mul ?_
    refine zv m_mv ?_
    refine zv m_mv ?_
    refine zv (m_cut (L' := ns rs) el25 sz3 (hL := by rw [List.take_of_length_le (by simp)]; rfl)) ?_
    refine zv m_mv ?_
    refine zqF (R := [29]) (hcall) ?_ (ha := (args_cons data_dv (args_cons data_dv (args_cons (data_ints (L := ns (cols.eraseIdx k)) (by (first | (simp only [mkM, reduceIte, Nat.reduceEqDiff] <;> rfl) | (simp [rst, mkM] <;> rfl))) trivial (by simp; omega) rfl (by simp [List.eraseIdx_eq_take_drop_succ]) (fun _ => trivial)) args_nil))))
    refine zv (m_mul (h1 := by omega) (h2 := by omega)) ?_
    refine zv (m_add (h1 := by omega) (h2 := by omega)) ?_
    refine zv m_as ?_
    refine ⟨by rfl, ?_⟩
    show AWp cx _ _ _
    refine rg ?_
    refine qv m_mv ?_
    refine qv m_neg ?_
    refine qv m_as ?_
    show AWp cx _ _ _
    refine rg ?_
    refine qv m_mv ?_
    refine qv m_add ?_
    refine qv m_as ?_
    exact ⟨k + 1, hk, (by simp only; omega), (tl [] (hF := by simp [FLe, svLe, lk, mkM, isLive, tauL, hsn, hsg]) (hM := by simp [MLe, blkLe, svLe, svLes, lk, mkM, isLive, tauL, svLes_ints, svLes_self, isDvs, isDvs_map, isDvs_app, isDvs_take, isDvs_set, isDvs_repl, hsn, hsg]))⟩
  · try simp at hc1
    refine awp_exit ?_
    show AWp cx _ _ _
    refine awp_seq ?_
    refine rg ?_
    refine qv m_mv ?_
    refine qv m_as ?_
    show AWp cx _ _ _
    refine awp_ret ?_
    obtain rfl : k = cols.length := by omega
    exact x1 (hr := (rI_ (by rw [dtL_cons hl])))
theorem f93 (m : List (List Int)) (hm : ∀ i j, -3 ≤ mq m i j ∧ mq m i j ≤ 3) (P : Nat) (hw : ∀ r ∈ m, r.length = P) : ∀ (rows cols : List Nat), cols.length = rows.length → rows.length ≤ 6 → (∀ i ∈ rows, i < m.length) → (∀ j ∈ cols, j < P) →
    ACallsF Try.prog 93 [.list (m.map ints), ints (ns rows), ints (ns cols)] (.one (.dv (i64 (dtL (mq m) rows cols))))
  | [], cols, _, _, _, _ => f93_0 m cols
  | a :: rs, cols, hl, h6, hi, hj => f93s m hm P hw a rs cols (by simpa using hl) (by simp at h6; omega) (hi a (by simp)) hj fun cs h1 h2 => f93 m hm P hw rs cs h1 (by simp at h6; omega) (fun i h => hi i (List.mem_cons_of_mem _ h)) h2
end Go.Ab.Try
