/- The functions of the moss laws, part 31. The walks are written by wip/gen/gw.py. -/
import Derived.Test.YtjipgkhfbfpacaaDoorMoss30
import Derived.Test.YtjipgkhfbfpacaaDoorMossFacts
import Derived.Test.YtjipgkhfbfpacaaDoorMossD
set_option linter.all false
namespace Go.Ab.Tryd
open Go Go.Ab Go.Proofs Go.Ab.Moss
theorem f53k {n : Mn} (ok : n.Ok) {v : Nat} (hv : v ≤ full n) : ACallsF Tryd.prog 53 [dMn n, i64 (v : Int)] (.many [.dv (.str (bs (fmtL n v))), .dv (i64 0)]) := by
  have h := f53 n.w v
  rw [fmt_ok ok hv, wetE_v ok hv] at h
  exact h
theorem u8_eq {b : UInt8} {k : Nat} (hk : k < 256) : ((b.toNat : Int) = (k : Int)) ↔ b = UInt8.ofNat k := by
  constructor
  · intro h
    have h2 : b.toNat = k := by omega
    rw [← h2]; simp
  · intro h
    rw [h]; simp; omega
theorem u8_35 {b : UInt8} : ((b.toNat : Int) == 35) = true ↔ b = 35 := by rw [beq_iff_eq]; exact u8_eq (k := 35) (by decide)
theorem u8_10 {b : UInt8} : ((b.toNat : Int) != 10) = true ↔ ¬ b = 10 := by rw [bne_iff_ne, ne_eq, not_congr]; exact u8_eq (k := 10) (by decide)
theorem rd_stop {N : Nat} {l : Tx} {x : Nat × Nat} (h : N ≤ x.2) : rdx N l x = x := by
  cases l with
  | nil => rfl
  | cons b l => simp only [rdx]; rw [if_neg (by omega)]
theorem rd_get {N : Nat} {T : Tx} {i : Nat} {b : UInt8} {x : Nat × Nat} (hb : T[i]? = some b) (h : x.2 < N) : rdx N (T.drop i) x = rdx N (T.drop (i + 1)) (rdS b x) := by
  obtain ⟨hi, rfl⟩ := List.getElem?_eq_some_iff.1 hb
  rw [List.drop_eq_getElem_cons hi, rdx, if_pos h]
theorem lt_full {n : Mn} {v : Nat} (h : v < 2 ^ (n.r * n.c)) : v ≤ full n := by unfold full; omega
def pRes : Option (Mn × Nat) → Mw × Int × Int
  | some (n, v) => (n.w, (v : Int), 0)
  | none => (⟨0, 0, 0⟩, 0, 2)
theorem x3c {P : Program} {okd : DV → Prop} {S : St} {rv : List ResultVar} {x : Exit} {d0 d1 d2 : DV} (he : x = .normal ∨ x = .ret) (h : resSV P S rv = some [.dv d0, .dv d1, .dv d2]) (h0 : okd d0) (h1 : okd d1) (h2 : okd d2) : EndK P okd rv (.many [.dv d0, .dv d1, .dv d2]) x S :=
  ⟨he, [.dv d0, .dv d1, .dv d2], [.dv d0, .dv d1, .dv d2], h, ⟨retOk_dv (.dv _ h0), retOk_dv (.dv _ h1), retOk_dv (.dv _ h2), trivial⟩, ra_d (by simp [AllDv1]), rfl⟩
theorem try_no {T : Tx} {n : Mn} (h : (fmtL n (readR n T) == T) = false) : tryP T n = none := by
  unfold tryP
  rw [if_neg (by simpa using h)]
theorem try_yes {T : Tx} {n : Mn} (ok : n.Ok) (h : (fmtL n (readR n T) == T) = true) : refP T = some (n, readR n T) := by
  have h1 := ref_fmt ok (read_lt n T)
  rwa [show fmtL n (readR n T) = T by simpa using h] at h1
theorem ref_none {T : Tx} (h : ∀ n : Mn, n.Ok → tryP T n = none) : refP T = none := by
  unfold refP
  rw [List.findSome?_eq_none_iff]
  exact fun n hn => h n (triples_ok.1 hn)
set_option maxHeartbeats 4000000 in
theorem f93 (n : Mn) (ok : n.Ok) (T : Tx) (hT : T.length ≤ 2000) : ACallsF Tryd.prog 93 [dMn n, .str (bs T)] (.many [.dv (i64 (readR n T : Int)), .dv (.bool (fmtL n (readR n T) == T))]) := by
  have hN := ok.N2
  refine callsF_of Tryd.func93 rfl rfl (by rw [Tryd.ntmps93]; simp) fun cx hP hn hg => ?_
  rw [Tryd.ntmps93] at hn
  rw [startF_lk, none_mkM]
  simp only [List.nil_append, List.append_nil, List.cons_append, zipSV, Nat.reduceAdd]
  refine awp_seq ?_
  refine rg ?_
  refine qp m_box ?_
  refine qv m_as ?_
  refine qv m_as ?_
  show AWp cx _ _ _
  refine awp_seq ?_
  refine rg ?_
  refine qv m_as ?_
  refine qv m_as ?_
  show AWp cx _ _ _
  refine awp_seq ?_
  refine awp_seq ?_
  refine rg ?_
  refine qv m_as ?_
  show AWp cx _ _ _
  refine awp_block ?_
  refine awp_loop (ι := Nat × Nat × Nat) (fun q => ⟨lk [(1, .dv (.str (bs T))), (2, .pt 2 0 0), (6, .dv (i64 (q.2.1 : Nat))), (7, .dv (i64 (q.2.2 : Nat))), (8, .dv (i64 (q.1 : Nat)))], mkM [(2, 0, some ⟨[.dv (i64 (n.r)), .dv (i64 (n.c)), .dv (i64 (n.nd))], 0, 23, 0, false⟩)]⟩) (fun q => 13 ≤ q.1 ∧ q.2.1 < 2 ^ (n.r * n.c) ∧ q.2.2 ≤ n.r * n.c ∧ rdx (n.r * n.c) (T.drop q.1) (q.2.1, q.2.2) = rdx (n.r * n.c) (T.drop 13) (0, 0)) (fun q => T.length - q.1) (13, 0, 0) ⟨Nat.le_refl _, Nat.two_pow_pos _, Nat.zero_le _, rfl⟩ (tl [(2, 2)]) ?_
  intro q hφ0
  obtain ⟨hq1, hq2, hq3, hq4⟩ := hφ0
  have hq36 := le36 ok (lt_full hq2)
  refine awp_seq ?_
  refine awp_seq ?_
  refine rg ?_
  refine qv m_mv ?_
  refine qv m_mv ?_
  refine qv (m_slen is9) ?_
  refine qv m_lss ?_
  refine qx m_mv (fun hg15 => ?_) (fun hg15 => ?_)
  · try simp at hg15
    refine qv m_mv ?_
    refine qv (m_ldpa sz23 ag23) ?_
    refine qqF (f62 n ok) ?_
    refine qv m_lss ?_
    refine qv m_pk ?_
    show AWp cx _ _ _
    refine cd (fun hc0 => ?_) (fun hc0 => ?_)
    · try simp at hc0
      have hil : q.1 < T.length := by omega
      have hsl : q.2.2 < n.r * n.c := by omega
      obtain ⟨b, hb⟩ : ∃ b, T[q.1]? = some b := ⟨_, List.getElem?_eq_getElem hil⟩
      refine awp_skip ?_
      show AWp cx _ _ _
      refine awp_seq ?_
      refine awp_block ?_
      refine awp_seq ?_
      refine awp_seq ?_
      refine rg ?_
      refine qv m_mv ?_
      refine qv m_mv ?_
      refine qv (m_sAt q.1 is9 hb) ?_
      refine qv m_eql ?_
      show AWp cx _ _ _
      refine cd (fun hc1 => ?_) (fun hc1 => ?_)
      · skip
        have h35 : b = 35 := u8_35.1 hc1
        have hS1 : (if b = 35 then q.2.1 ||| 2 ^ q.2.2 else q.2.1) = q.2.1 ||| 2 ^ q.2.2 := if_pos h35
        refine rg ?_
        refine qv m_mv ?_
        refine qv m_mv ?_
        refine qv (m_cnvU kd3 kd41) ?_
        refine qv (m_shlS q.2.2) ?_
        refine qv (m_orS (ha := hq36)) ?_
        refine qv m_as ?_
        show AWp cx _ _ _
        refine awp_seq ?_
        refine rg ?_
        refine qv m_mv ?_
        refine qv m_mv ?_
        refine qv (m_sAt q.1 is9 hb) ?_
        refine qv m_neq ?_
        show AWp cx _ _ _
        refine cd (fun hc2 => ?_) (fun hc2 => ?_)
        · skip
          have hS2 : (if b = 10 then q.2.2 else q.2.2 + 1) = q.2.2 + 1 := if_neg (u8_10.1 hc2)
          refine rg ?_
          refine qv m_mv ?_
          refine qv m_add ?_
          refine qv m_as ?_
          show AWp cx _ _ _
          refine rg ?_
          refine qv m_mv ?_
          refine qv m_add ?_
          refine qv m_as ?_
          exact ⟨(q.1 + 1, (if b = 35 then q.2.1 ||| 2 ^ q.2.2 else q.2.1), (if b = 10 then q.2.2 else q.2.2 + 1)), by
            refine ⟨by simp only; omega, ?_, ?_, ?_⟩
            · simp only; rw [hS1]; first | exact Nat.or_lt_two_pow hq2 (Nat.pow_lt_pow_right (by decide) hsl) | exact hq2
            · simp only; split <;> omega
            · rw [← hq4, rd_get hb (x := (q.2.1, q.2.2)) hsl]; rfl, (by simp only; omega), (tl [(2, 2)] (hF := by simp [FLe, svLe, lk, mkM, isLive, tauL, hS1, hS2]) (hM := by simp [MLe, blkLe, svLe, svLes, lk, mkM, isLive, tauL, svLes_ints, svLes_self, isDvs, isDvs_map, isDvs_app, isDvs_take, isDvs_set, isDvs_repl, hS1, hS2]))⟩
        · skip
          have hS2 : (if b = 10 then q.2.2 else q.2.2 + 1) = q.2.2 := if_pos (Classical.byContradiction fun h => by rw [u8_10.2 h] at hc2; cases hc2)
          refine awp_skip ?_
          show AWp cx _ _ _
          refine rg ?_
          refine qv m_mv ?_
          refine qv m_add ?_
          refine qv m_as ?_
          exact ⟨(q.1 + 1, (if b = 35 then q.2.1 ||| 2 ^ q.2.2 else q.2.1), (if b = 10 then q.2.2 else q.2.2 + 1)), by
            refine ⟨by simp only; omega, ?_, ?_, ?_⟩
            · simp only; rw [hS1]; first | exact Nat.or_lt_two_pow hq2 (Nat.pow_lt_pow_right (by decide) hsl) | exact hq2
            · simp only; split <;> omega
            · rw [← hq4, rd_get hb (x := (q.2.1, q.2.2)) hsl]; rfl, (by simp only; omega), (tl [(2, 2)] (hF := by simp [FLe, svLe, lk, mkM, isLive, tauL, hS1, hS2]) (hM := by simp [MLe, blkLe, svLe, svLes, lk, mkM, isLive, tauL, svLes_ints, svLes_self, isDvs, isDvs_map, isDvs_app, isDvs_take, isDvs_set, isDvs_repl, hS1, hS2]))⟩
      · skip
        have h35 : ¬ b = 35 := fun h => by rw [u8_35.2 h] at hc1; cases hc1
        have hS1 : (if b = 35 then q.2.1 ||| 2 ^ q.2.2 else q.2.1) = q.2.1 := if_neg h35
        refine awp_skip ?_
        show AWp cx _ _ _
        refine awp_seq ?_
        refine rg ?_
        refine qv m_mv ?_
        refine qv m_mv ?_
        refine qv (m_sAt q.1 is9 hb) ?_
        refine qv m_neq ?_
        show AWp cx _ _ _
        refine cd (fun hc2 => ?_) (fun hc2 => ?_)
        · skip
          have hS2 : (if b = 10 then q.2.2 else q.2.2 + 1) = q.2.2 + 1 := if_neg (u8_10.1 hc2)
          refine rg ?_
          refine qv m_mv ?_
          refine qv m_add ?_
          refine qv m_as ?_
          show AWp cx _ _ _
          refine rg ?_
          refine qv m_mv ?_
          refine qv m_add ?_
          refine qv m_as ?_
          exact ⟨(q.1 + 1, (if b = 35 then q.2.1 ||| 2 ^ q.2.2 else q.2.1), (if b = 10 then q.2.2 else q.2.2 + 1)), by
            refine ⟨by simp only; omega, ?_, ?_, ?_⟩
            · simp only; rw [hS1]; first | exact Nat.or_lt_two_pow hq2 (Nat.pow_lt_pow_right (by decide) hsl) | exact hq2
            · simp only; split <;> omega
            · rw [← hq4, rd_get hb (x := (q.2.1, q.2.2)) hsl]; rfl, (by simp only; omega), (tl [(2, 2)] (hF := by simp [FLe, svLe, lk, mkM, isLive, tauL, hS1, hS2]) (hM := by simp [MLe, blkLe, svLe, svLes, lk, mkM, isLive, tauL, svLes_ints, svLes_self, isDvs, isDvs_map, isDvs_app, isDvs_take, isDvs_set, isDvs_repl, hS1, hS2]))⟩
        · skip
          have hS2 : (if b = 10 then q.2.2 else q.2.2 + 1) = q.2.2 := if_pos (Classical.byContradiction fun h => by rw [u8_10.2 h] at hc2; cases hc2)
          refine awp_skip ?_
          show AWp cx _ _ _
          refine rg ?_
          refine qv m_mv ?_
          refine qv m_add ?_
          refine qv m_as ?_
          exact ⟨(q.1 + 1, (if b = 35 then q.2.1 ||| 2 ^ q.2.2 else q.2.1), (if b = 10 then q.2.2 else q.2.2 + 1)), by
            refine ⟨by simp only; omega, ?_, ?_, ?_⟩
            · simp only; rw [hS1]; first | exact Nat.or_lt_two_pow hq2 (Nat.pow_lt_pow_right (by decide) hsl) | exact hq2
            · simp only; split <;> omega
            · rw [← hq4, rd_get hb (x := (q.2.1, q.2.2)) hsl]; rfl, (by simp only; omega), (tl [(2, 2)] (hF := by simp [FLe, svLe, lk, mkM, isLive, tauL, hS1, hS2]) (hM := by simp [MLe, blkLe, svLe, svLes, lk, mkM, isLive, tauL, svLes_ints, svLes_self, isDvs, isDvs_map, isDvs_app, isDvs_take, isDvs_set, isDvs_repl, hS1, hS2]))⟩
    · try simp at hc0
      refine awp_exit ?_
      show AWp cx _ _ _
      refine awp_seq ?_
      refine rg ?_
      refine qv (m_ldpa sz23 ag23) ?_
      refine qv m_mv ?_
      refine qqF (f53k ok (lt_full hq2)) ?_
      refine qv m_mv ?_
      refine qv m_ext ?_
      refine qv m_ext ?_
      refine qv m_as ?_
      refine qv m_as ?_
      show AWp cx _ _ _
      refine awp_seq ?_
      refine rg ?_
      refine qv m_mv ?_
      refine qv m_mv ?_
      refine qv m_mv ?_
      refine qv m_seq ?_
      refine qv m_as ?_
      refine qv m_as ?_
      show AWp cx _ _ _
      refine awp_ret ?_
      have hrd : readR n T = q.2.1 := by unfold readR; rw [← hq4, rd_stop (by simp only; omega)]
      exact x2 (hr := (rI_ (by rw [hrd]))) (hr' := (rB_ (by rw [hrd])))
  · try simp at hg15
    refine qk ?_
    refine qk ?_
    refine qk ?_
    refine qk ?_
    refine qv m_pk ?_
    show AWp cx _ _ _
    refine cdF (hb := by first | rfl | simp | simp_all) (ht := ?_)
    refine awp_exit ?_
    show AWp cx _ _ _
    refine awp_seq ?_
    refine rg ?_
    refine qv (m_ldpa sz23 ag23) ?_
    refine qv m_mv ?_
    refine qqF (f53k ok (lt_full hq2)) ?_
    refine qv m_mv ?_
    refine qv m_ext ?_
    refine qv m_ext ?_
    refine qv m_as ?_
    refine qv m_as ?_
    show AWp cx _ _ _
    refine awp_seq ?_
    refine rg ?_
    refine qv m_mv ?_
    refine qv m_mv ?_
    refine qv m_mv ?_
    refine qv m_seq ?_
    refine qv m_as ?_
    refine qv m_as ?_
    show AWp cx _ _ _
    refine awp_ret ?_
    have hrd : readR n T = q.2.1 := by unfold readR; rw [← hq4, List.drop_of_length_le (by omega)]; rfl
    exact x2 (hr := (rI_ (by rw [hrd]))) (hr' := (rB_ (by rw [hrd])))
set_option maxHeartbeats 4000000 in
theorem f55 (T : Tx) (hT : T.length ≤ 2000) : ACallsF Tryd.prog 55 [.str (bs T)] (.many [.dv (dMw (pRes (refP T)).1), .dv (i64 (pRes (refP T)).2.1), .dv (i64 (pRes (refP T)).2.2)]) := by
  refine callsF_of Tryd.func55 rfl rfl (by rw [Tryd.ntmps55]; simp) fun cx hP hn hg => ?_
  rw [Tryd.ntmps55] at hn
  rw [startF_lk, none_mkM]
  simp only [List.nil_append, List.append_nil, List.cons_append, zipSV, Nat.reduceAdd]
  refine awp_seq ?_
  refine rg ?_
  refine qp (m_al ze23) ?_
  refine qv m_as ?_
  refine qv m_as ?_
  show AWp cx _ _ _
  refine awp_seq ?_
  refine awp_seq ?_
  refine rg ?_
  refine qv m_as ?_
  show AWp cx _ _ _
  refine awp_block ?_
  refine awp_loop (ι := Nat) (fun r => ⟨lk [(0, .dv (.str (bs T))), (2, .pt 2 0 0), (5, .dv (i64 (r : Nat)))], mkM [(2, 0, some ⟨[.dv (i64 0), .dv (i64 0), .dv (i64 0)], 0, 23, 0, false⟩)]⟩) (fun r => 1 ≤ r ∧ r ≤ 7 ∧ ∀ n : Mn, n.Ok → n.r < r → tryP T n = none) (fun r => 7 - r) 1 ⟨Nat.le_refl _, by decide, fun n ok h => absurd ok.r1 (by omega)⟩ (tl [(2, 2)]) ?_
  intro r hφ0
  obtain ⟨hr1, hr2, hr3⟩ := hφ0
  refine awp_seq ?_
  refine awp_seq ?_
  refine rg ?_
  refine qv m_mv ?_
  refine qv m_leq ?_
  show AWp cx _ _ _
  refine cd (fun hc0 => ?_) (fun hc0 => ?_)
  · try simp at hc0
    refine awp_skip ?_
    show AWp cx _ _ _
    refine awp_seq ?_
    refine awp_block ?_
    refine awp_seq ?_
    refine rg ?_
    refine qv m_as ?_
    show AWp cx _ _ _
    refine awp_block ?_
    refine awp_loop (ι := Nat) (fun c => ⟨lk [(0, .dv (.str (bs T))), (2, .pt 2 0 0), (5, .dv (i64 (r : Nat))), (6, .dv (i64 (c : Nat)))], mkM [(2, 0, some ⟨[.dv (i64 0), .dv (i64 0), .dv (i64 0)], 0, 23, 0, false⟩)]⟩) (fun c => 1 ≤ c ∧ c ≤ 7 ∧ ∀ n : Mn, n.Ok → n.r = r → n.c < c → tryP T n = none) (fun c => 7 - c) 1 ⟨Nat.le_refl _, by decide, fun n ok _ h => absurd ok.c1 (by omega)⟩ (tl [(2, 2)]) ?_
    intro c hφ1
    obtain ⟨g1, g2, g3⟩ := hφ1
    refine awp_seq ?_
    refine awp_seq ?_
    refine rg ?_
    refine qv m_mv ?_
    refine qv m_leq ?_
    show AWp cx _ _ _
    refine cd (fun hc1 => ?_) (fun hc1 => ?_)
    · try simp at hc1
      refine awp_skip ?_
      show AWp cx _ _ _
      refine awp_seq ?_
      refine awp_block ?_
      refine awp_seq ?_
      refine rg ?_
      refine qv m_as ?_
      show AWp cx _ _ _
      refine awp_block ?_
      refine awp_loop (ι := Nat) (fun d => ⟨lk [(0, .dv (.str (bs T))), (2, .pt 2 0 0), (5, .dv (i64 (r : Nat))), (6, .dv (i64 (c : Nat))), (7, .dv (i64 (d : Nat)))], mkM [(2, 0, some ⟨[.dv (i64 0), .dv (i64 0), .dv (i64 0)], 0, 23, 0, false⟩)]⟩) (fun d => 1 ≤ d ∧ d ≤ 4 ∧ ∀ n : Mn, n.Ok → n.r = r → n.c = c → n.nd < d → tryP T n = none) (fun d => 4 - d) 1 ⟨Nat.le_refl _, by decide, fun n ok _ _ h => absurd ok.n1 (by omega)⟩ (tl [(2, 2)]) ?_
      intro d hφ2
      obtain ⟨hd1, hd2, hd3⟩ := hφ2
      refine awp_seq ?_
      refine awp_seq ?_
      refine rg ?_
      refine qv m_mv ?_
      refine qv m_leq ?_
      show AWp cx _ _ _
      refine cd (fun hc2 => ?_) (fun hc2 => ?_)
      · try simp at hc2
        have ok : Mn.Ok ⟨r, c, d⟩ := ⟨hr1, by simp only; omega, g1, by simp only; omega, hd1, by simp only; omega⟩
        refine awp_skip ?_
        show AWp cx _ _ _
        refine awp_seq ?_
        refine awp_block ?_
        refine awp_seq ?_
        refine rg ?_
        refine qv m_mv ?_
        refine qv m_mv ?_
        refine qv m_mv ?_
        refine qv (m_bld pl23 ze23) ?_
        refine qp (m_al ze23) ?_
        refine qs (m_st sz23) ?_
        show AWp cx _ _ _
        refine awp_seq ?_
        refine rg ?_
        refine qv (m_ldpa sz23 ag23) ?_
        refine qv m_mv ?_
        refine qqF (f93 ⟨r, c, d⟩ ok T hT) ?_
        refine qv m_mv ?_
        refine qv m_ext ?_
        refine qv m_ext ?_
        refine qv m_as ?_
        refine qv m_as ?_
        show AWp cx _ _ _
        refine awp_seq ?_
        refine rg ?_
        refine qv m_mv ?_
        show AWp cx _ _ _
        refine cd (fun hc3 => ?_) (fun hc3 => ?_)
        · skip
          have hR := try_yes ok hc3
          refine awp_seq ?_
          refine rg ?_
          refine qv (m_ldpa sz23 ag23) ?_
          refine qv m_mv ?_
          refine qs (m_st sz23) ?_
          refine qv m_as ?_
          refine qv m_as ?_
          show AWp cx _ _ _
          refine awp_ret ?_
          rw [hR]
          exact x3c (rv := [.cell 2 23, .tmp 3, .tmp 4]) (.inr rfl) (by simp only [resSV, loadSV, St.look, St.ev, lk, mkM, blkOf, svOf, svOfCell, sz23, ag23, reduceIte, Nat.reduceEqDiff]; rfl) (.agg _ (by intro c hc; simp at hc; rcases hc with rfl | rfl | rfl <;> exact .int _ _)) (.int _ _) (.int _ _)
        · skip
          have hcc := hc3
          refine awp_skip ?_
          show AWp cx _ _ _
          refine rg ?_
          refine qv m_mv ?_
          refine qv m_add ?_
          refine qv m_as ?_
          exact ⟨d + 1, ⟨by omega, by omega, fun n ok e1 e2 h => by
            rcases Nat.lt_or_ge n.nd d with h2 | h2
            · exact hd3 n ok e1 e2 h2
            · obtain rfl : n = ⟨r, c, d⟩ := by cases n; simp only [Mn.mk.injEq] at *; omega
              exact try_no hcc⟩, (by simp only; omega), (tl [(2, 2)])⟩
      · try simp at hc2
        refine awp_exit ?_
        show AWp cx _ _ _
        refine rg ?_
        refine qv m_mv ?_
        refine qv m_add ?_
        refine qv m_as ?_
        exact ⟨c + 1, ⟨by omega, by omega, fun n ok e h => by
          rcases Nat.lt_or_ge n.c c with h2 | h2
          · exact g3 n ok e h2
          · exact hd3 n ok e (by omega) (by have := ok.n2; omega)⟩, (by simp only; omega), (tl [(2, 2)])⟩
    · try simp at hc1
      refine awp_exit ?_
      show AWp cx _ _ _
      refine rg ?_
      refine qv m_mv ?_
      refine qv m_add ?_
      refine qv m_as ?_
      exact ⟨r + 1, ⟨by omega, by omega, fun n ok h => by
        rcases Nat.lt_or_ge n.r r with h2 | h2
        · exact hr3 n ok h2
        · exact g3 n ok (by omega) (by have := ok.c2; omega)⟩, (by simp only; omega), (tl [(2, 2)])⟩
  · try simp at hc0
    refine awp_exit ?_
    show AWp cx _ _ _
    refine awp_seq ?_
    refine rg ?_
    refine qv (m_bld pl23 ze23) ?_
    refine qs (m_st sz23) ?_
    refine qv m_as ?_
    refine qv m_as ?_
    show AWp cx _ _ _
    refine awp_ret ?_
    rw [ref_none fun n ok => hr3 n ok (by have := ok.r2; omega)]
    exact x3c (rv := [.cell 2 23, .tmp 3, .tmp 4]) (.inr rfl) (by simp only [resSV, loadSV, St.look, St.ev, lk, mkM, blkOf, svOf, svOfCell, sz23, ag23, reduceIte, Nat.reduceEqDiff]; rfl) (.agg _ (by intro c hc; simp at hc; rcases hc with rfl | rfl | rfl <;> exact .int _ _)) (.int _ _) (.int _ _)
end Go.Ab.Tryd
