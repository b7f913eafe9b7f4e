/- The functions of the moss laws, part 17. The walks are written by wip/gen/gw.py. -/
import Derived.Test.YtjipgkhfbfpacaaDoorMoss16
import Derived.Test.YtjipgkhfbfpacaaDoorMossFacts
import Derived.Test.YtjipgkhfbfpacaaDoorMossD
set_option linter.all false
namespace Go.Ab.Tryd
open Go Go.Ab Go.Proofs Go.Ab.Moss

theorem andn_bit {a b i : Nat} : (andn a b).testBit i = (a.testBit i && !b.testBit i) := by
  unfold andn
  rw [Nat.testBit_xor, Nat.testBit_and]
  cases a.testBit i <;> cases b.testBit i <;> rfl
theorem full_bit {n : Mn} {i : Nat} : (full n).testBit i = decide (i < n.r * n.c) := by unfold full; rw [Nat.testBit_two_pow_sub_one]
theorem bit_lt {n : Mn} {d i : Nat} (hd : d ≤ full n) (h : d.testBit i = true) : i < n.r * n.c := le_full_iff.1 hd i h
theorem andn_le {n : Mn} {d : Nat} : andn (full n) d ≤ full n := le_full_iff.2 fun i hi => by
  rw [andn_bit, Bool.and_eq_true, full_bit, decide_eq_true_eq] at hi
  exact hi.1
theorem andn_back {n : Mn} {d : Nat} (hd : d ≤ full n) : andn (full n) (andn (full n) d) = d := by
  apply Nat.eq_of_testBit_eq
  intro i
  rw [andn_bit, andn_bit, full_bit]
  cases h : d.testBit i with
  | true => have := bit_lt hd h; simp [this]
  | false => by_cases hi : i < n.r * n.c <;> simp [hi]
theorem andn_or {a d x : Nat} : andn (andn a d) x = andn a (d ||| x) := by
  apply Nat.eq_of_testBit_eq
  intro i
  rw [andn_bit, andn_bit, andn_bit, Nat.testBit_or]
  cases a.testBit i <;> cases d.testBit i <;> cases x.testBit i <;> rfl
/-- What counts outside of a core counts in what is not the core. -/
theorem out_cnt {n : Mn} (ok : n.Ok) {d k : Nat} (hd : d ≤ full n) (hk : k < n.r * n.c) : popc (andn (arN n k) (andn (full n) d)) = cntR n d k := by
  rw [← popc_and ok hk]
  congr 1
  apply Nat.eq_of_testBit_eq
  intro i
  rw [andn_bit, andn_bit, Nat.testBit_and, full_bit]
  by_cases hi : i < n.r * n.c
  · simp [hi]
  · have : d.testBit i = false := by
      cases h : d.testBit i with
      | true => exact absurd (bit_lt hd h) hi
      | false => rfl
    have h2 : (arN n k).testBit i = false := by rw [arN_bit ok hk]; simp [hi]
    simp [hi, this, h2]
theorem mem_bl' {v k : Nat} : k ∈ bl v ↔ k < 64 ∧ v.testBit k = true := by simp [bl]
/-- A core's squares outside of which nothing spreads. -/
theorem core_eq {n : Mn} (ok : n.Ok) {d : Nat} (hd : d ≤ full n) : coreB n (andn (full n) d) = decide (rdN n d = 0) := by
  rw [Bool.eq_iff_iff, decide_eq_true_eq, rd_zero ok]
  unfold coreB
  rw [Bool.not_eq_true', Bool.eq_false_iff, Ne, List.any_eq_true]
  have hN := ok.N2
  constructor
  · intro h k hk hc
    cases hw : d.testBit k with
    | true => rfl
    | false =>
      refine absurd ⟨k, mem_bl'.2 ⟨by omega, ?_⟩, ?_⟩ h
      · rw [andn_bit, full_bit]; simp [hk, hw]
      · unfold outB; rw [out_cnt ok hd hk]; simp [hc]
  · rintro h ⟨k, hk, ho⟩
    rw [mem_bl', andn_bit, full_bit, Bool.and_eq_true, decide_eq_true_eq] at hk
    unfold outB at ho
    rw [out_cnt ok hd hk.2.1, decide_eq_true_eq] at ho
    have := h k hk.2.1 ho
    rw [this] at hk
    simp at hk
def coreN (n : Mn) (v : Nat) : Nat := andn (full n) (spr n v).1
/-- What has been taken out of the core is part of what spreads. -/
def Core (n : Mn) (v d : Nat) : Prop := d ≤ full n ∧ Sub d (spr n v).1 ∧ Sub v d
theorem Core.init {n : Mn} {v : Nat} (hv : v ≤ full n) : Core n v v := ⟨hv, spr_sub v, .refl v⟩
theorem Core.step {n : Mn} (ok : n.Ok) {v d k : Nat} (h : Core n v d) (hk : k < n.r * n.c) (hc : n.nd ≤ cntR n d k) : Core n v (d ||| 2 ^ k) := by
  obtain ⟨h1, h2, h3⟩ := h
  refine ⟨or_full h1 (bit_full hk), or_sub h2 ?_, h3.trans sub_or⟩
  intro i hi
  rw [Nat.testBit_two_pow, decide_eq_true_eq] at hi
  subst hi
  exact (rd_zero ok).1 (spr_closed (n := n) v) _ hk (Nat.le_trans hc (cnt_mono h2))
theorem Core.done {n : Mn} (ok : n.Ok) {v d : Nat} (h : Core n v d) (h0 : rdN n d = 0) : andn (full n) d = coreN n v := by
  unfold coreN
  rw [Sub.antisymm h.2.1 (spr_least ok h0 v h.2.2)]
/-- Within a round: nothing has been taken yet, or less is left. -/
def Less (n : Mn) (d e : Nat) (p : Prop) : Prop := (e = d ∧ p) ∨ dryC n e < dryC n d
theorem dryC_or {n : Mn} {e x : Nat} : dryC n (e ||| x) ≤ dryC n e := by
  unfold dryC
  refine List.countP_mono_left fun i _ hi => ?_
  simp only [Nat.testBit_or, Bool.not_or, Bool.and_eq_true] at hi
  exact hi.1
theorem Less.step {n : Mn} {d e k : Nat} {p q : Prop} (h : Less n d e p) (hk : k < n.r * n.c) (hb : d.testBit k = false) : Less n d (e ||| 2 ^ k) q := by
  rcases h with ⟨rfl, _⟩ | h
  · exact .inr (dryC_lt' hk hb (bit_two k))
  · exact .inr (Nat.lt_of_le_of_lt dryC_or h)
theorem Less.go {n : Mn} {d e : Nat} {p q : Prop} (h : Less n d e p) (hp : e = d → p → q) : Less n d e q := by
  rcases h with ⟨rfl, h⟩ | h
  · exact .inl ⟨rfl, hp rfl h⟩
  · exact .inr h
theorem bl_dry {n : Mn} {d k : Nat} (h : k ∈ bl (andn (full n) d)) : d.testBit k = false := by
  rw [mem_bl', andn_bit, Bool.and_eq_true] at h
  simpa using h.2.2
theorem Less.fin {n : Mn} (ok : n.Ok) {d e : Nat} {p : Prop} (h : Less n d e p) (hd : d ≤ full n) (h0 : rdN n d ≠ 0) (hp : p → ∀ j (hj : j < (bl (andn (full n) d)).length), ¬ n.nd ≤ cntR n d (bl (andn (full n) d))[j]) : dryC n e < dryC n d := by
  rcases h with ⟨rfl, h⟩ | h
  · refine absurd ((rd_zero ok).2 fun k hk hc => ?_) h0
    cases hw : e.testBit k with
    | true => rfl
    | false =>
      have hN := ok.N2
      have hm : k ∈ bl (andn (full n) e) := mem_bl'.2 ⟨by omega, by rw [andn_bit, full_bit]; simp [hk, hw]⟩
      obtain ⟨j, hj, he⟩ := List.getElem_of_mem hm
      exact absurd (by rw [he]; exact hc) (hp h j hj)
  · exact h
theorem core_le {n : Mn} (ok : n.Ok) {v : Nat} (hv : v ≤ full n) : coreN n v < 68719476736 := le36 ok andn_le


set_option maxHeartbeats 4000000 in
theorem f34 (m : Mw) (w : Int) : ACallsF Tryd.prog 34 [dMw m, i64 w] (.many [.dv (i64 (onWet m w 0 fun n v => (coreN n v : Int))), .dv (i64 (wetE m w))]) := by
  refine callsF_of Tryd.func34 rfl rfl (by rw [Tryd.ntmps34]; simp) fun cx hP hn hg => ?_
  rw [Tryd.ntmps34] at hn
  rw [startF_lk, none_mkM]
  simp only [List.nil_append, List.append_nil, List.cons_append, zipSV, Nat.reduceAdd]
  refine awp_seq ?_
  refine rg ?_
  refine qp m_box ?_
  refine qv m_as ?_
  refine qv m_as ?_
  show AWp cx _ _ _
  refine awp_seq ?_
  refine awp_seq ?_
  refine rg ?_
  refine qv (m_ldpa sz23 ag23) ?_
  refine qv m_mv ?_
  refine qqF (f56 m w) ?_
  refine qv m_as ?_
  show AWp cx _ _ _
  refine awp_seq ?_
  refine rg ?_
  refine qv m_mv ?_
  refine qv m_neq ?_
  show AWp cx _ _ _
  refine cd (fun hc0 => ?_) (fun hc0 => ?_)
  · skip
    have hne : ¬ wetE m w = 0 := by simpa using hc0
    refine awp_seq ?_
    refine rg ?_
    refine qv m_mv ?_
    refine qv m_as ?_
    refine qv m_as ?_
    show AWp cx _ _ _
    refine awp_ret ?_
    exact x2 (hr := (rI_ (by rw [onWet_no hne]))) (hr' := (rI_))
  · skip
    have he : wetE m w = 0 := by simpa using hc0
    obtain ⟨n, v, ok, rfl, rfl, hv⟩ := wetE_ok he
    have hv36 := le36 ok hv
    have hwe := wetE_v ok hv
    refine awp_skip ?_
    show AWp cx _ _ _
    refine awp_seq ?_
    refine rg ?_
    refine qv (m_ldpa sz23 ag23) ?_
    refine qqF (f78 n ok) ?_
    refine qv m_mv ?_
    refine qv (m_andnS (ha := full_lt ok)) ?_
    refine qv m_as ?_
    show AWp cx _ _ _
    refine awp_seq ?_
    refine awp_block ?_
    refine awp_loop (ι := Nat) (fun d => ⟨lk [(2, .pt 2 0 0), (7, .dv (i64 (andn (full n) d : Nat)))], mkM [(2, 0, some ⟨[.dv (i64 ((n.r : Int))), .dv (i64 ((n.c : Int))), .dv (i64 ((n.nd : Int)))], 0, 23, 0, false⟩)]⟩) (fun d => Core n v d) (fun d => dryC n d) v (Core.init hv) (tl [(2, 2)]) ?_
    intro d hφ0
    refine awp_seq ?_
    refine awp_seq ?_
    refine rg ?_
    refine qv (m_ldpa sz23 ag23) ?_
    refine qv m_mv ?_
    refine qqF (f79 n ok (andn (full n) d) andn_le) ?_
    refine qv m_not ?_
    show AWp cx _ _ _
    refine cd (fun hc1 => ?_) (fun hc1 => ?_)
    · skip
      have hnc : rdN n d ≠ 0 := by
        intro h0
        rw [core_eq ok hφ0.1, h0] at hc1
        simp at hc1
      have ha36 := le36 ok (andn_le (n := n) (d := d))
      have hnl := ns_len (bl (andn (full n) d))
      have hbl64 := bl_len (x := andn (full n) d)
      refine awp_skip ?_
      show AWp cx _ _ _
      refine awp_block ?_
      refine awp_seq ?_
      refine rg ?_
      refine qv m_mv ?_
      refine qqF (f58 (andn (full n) d) ha36) ?_
      refine qv (m_lenR il32) ?_
      refine qv m_mv ?_
      show AWp cx _ _ _
      refine awp_block ?_
      refine awp_loop (ι := Nat × Nat) (fun q => ⟨lk [(2, .pt 2 0 0), (7, .dv (i64 (andn (full n) q.2 : Nat))), (25, .sl 25 0 0 (ns (bl (andn (full n) d))).length), (26, .dv (i64 (((ns (bl (andn (full n) d))).length : Nat)))), (27, .dv (i64 (q.1 : Nat)))], mkM [(2, 0, some ⟨[.dv (i64 ((n.r : Int))), .dv (i64 ((n.c : Int))), .dv (i64 ((n.nd : Int)))], 0, 23, 0, false⟩), (25, 0, some (rowI (ns (bl (andn (full n) d)))))]⟩) (fun q => q.1 ≤ (bl (andn (full n) d)).length ∧ Core n v q.2 ∧ Less n d q.2 (∀ j (hj : j < q.1) (hl : j < (bl (andn (full n) d)).length), ¬ n.nd ≤ cntR n d (bl (andn (full n) d))[j])) (fun q => (bl (andn (full n) d)).length - q.1) (0, d) ⟨Nat.zero_le _, hφ0, .inl ⟨rfl, fun j hj => absurd hj (Nat.not_lt_zero _)⟩⟩ (tl [(2, 2), (25, 25)]) ?_
      intro q hφ1
      refine awp_seq ?_
      refine rg ?_
      refine qv m_lss ?_
      show AWp cx _ _ _
      refine awp_seq ?_
      refine cd (fun hc2 => ?_) (fun hc2 => ?_)
      · try simp at hc2
        refine awp_skip ?_
        show AWp cx _ _ _
        refine awp_seq ?_
        refine awp_block ?_
        refine awp_seq ?_
        refine rg ?_
        have hi : q.1 < (bl (andn (full n) d)).length := by omega
        have hgi := ns_get hi
        have hkm : (bl (andn (full n) d))[q.1] ∈ bl (andn (full n) d) := List.getElem_mem hi
        have hkl := bl_in andn_le hkm
        have hN := ok.N2
        have har := arN_lt ok hkl
        have hoc := out_cnt ok hφ1.2.1.1 hkl
        have hor := andn_or (a := full n) (d := q.2) (x := 2 ^ (bl (andn (full n) d))[q.1])
        refine qv (m_ixR el32 sz3) ?_
        first | refine qv (m_ldI sz3 ag3) ?_ | refine qv (m_ldp sz3 ag3) ?_
        refine qv m_as ?_
        show AWp cx _ _ _
        refine awp_seq ?_
        refine rd mixed ?_
        refine zv (m_ldpa sz23 ag23) ?_
        refine zv m_mv ?_
        refine zqF (R := []) (f60 n ok (bl (andn (full n) d))[q.1] hkl) ?_
        refine zv m_mv ?_
        refine zv (m_andnS (ha := har) (hb := le36 ok andn_le)) ?_
        refine zqF (R := []) (f59 _ (andn36 har)) ?_
        refine zv (m_fdp fd23_2) ?_
        refine zv (m_ldp sz3 ag3) ?_
        refine zv m_geq ?_
        refine ⟨by rfl, ?_⟩
        show AWp cx _ _ _
        refine cd (fun hc3 => ?_) (fun hc3 => ?_)
        · skip
          have hge : n.nd ≤ cntR n q.2 (bl (andn (full n) d))[q.1] := by
            have h3 : decide (((popc (andn (arN n (bl (andn (full n) d))[q.1]) (andn (full n) q.2)) : Nat) : Int) ≥ (n.nd : Int)) = true := hc3
            rw [hoc] at h3
            simp at h3
            exact h3
          refine rg ?_
          refine qv m_mv ?_
          refine qv m_mv ?_
          refine qv (m_shlS (bl (andn (full n) d))[q.1]) ?_
          refine qv (m_andnS (ha := le36 ok andn_le)) ?_
          refine qv m_as ?_
          show AWp cx _ _ _
          refine rg ?_
          refine qv m_add ?_
          refine qv m_mv ?_
          exact ⟨(q.1 + 1, q.2 ||| 2 ^ (bl (andn (full n) d))[q.1]), ⟨hi, hφ1.2.1.step ok hkl hge, hφ1.2.2.step hkl (bl_dry hkm)⟩, (by simp only; omega), (tl [(2, 2), (25, 25)] (hF := by simp [FLe, svLe, lk, mkM, isLive, tauL, hor]) (hM := by simp [MLe, blkLe, svLe, svLes, lk, mkM, isLive, tauL, svLes_ints, svLes_self, isDvs, isDvs_map, isDvs_app, isDvs_take, isDvs_set, isDvs_repl, hor]))⟩
        · skip
          have hlt : ¬ n.nd ≤ cntR n q.2 (bl (andn (full n) d))[q.1] := by
            have h3 : decide (((popc (andn (arN n (bl (andn (full n) d))[q.1]) (andn (full n) q.2)) : Nat) : Int) ≥ (n.nd : Int)) = false := hc3
            rw [hoc] at h3
            simp at h3
            omega
          refine awp_skip ?_
          show AWp cx _ _ _
          refine rg ?_
          refine qv m_add ?_
          refine qv m_mv ?_
          exact ⟨(q.1 + 1, q.2), ⟨hi, hφ1.2.1, hφ1.2.2.go fun he h j (hj : j < q.1 + 1) hl => if h1 : j < q.1 then h j h1 hl else by have e : j = q.1 := (by omega); subst e; rw [he] at hlt; exact hlt⟩, (by simp only; omega), (tl [(2, 2), (25, 25)] (hF := by simp [FLe, svLe, lk, mkM, isLive, tauL, hor]) (hM := by simp [MLe, blkLe, svLe, svLes, lk, mkM, isLive, tauL, svLes_ints, svLes_self, isDvs, isDvs_map, isDvs_app, isDvs_take, isDvs_set, isDvs_repl, hor]))⟩
      · try simp at hc2
        refine awp_exit ?_
        exact ⟨q.2, hφ1.2.1, (hφ1.2.2.fin ok hφ0.1 hnc fun hl j hj => hl j (by omega) hj), (tl [(2, 2)])⟩
    · skip
      refine awp_exit ?_
      show AWp cx _ _ _
      refine awp_seq ?_
      refine rg ?_
      refine qv m_mv ?_
      refine qv m_as ?_
      refine qv m_as ?_
      show AWp cx _ _ _
      refine awp_ret ?_
      have h0 : rdN n d = 0 := by
        rw [core_eq ok hφ0.1] at hc1
        simpa using hc1
      exact x2 (hr := (rI_ (by rw [onWet_ok ok hv, hφ0.done ok h0]))) (hr' := (rI_ (by rw [hwe])))

theorem f80 (n : Mn) (ok : n.Ok) (d : Nat) (hd : d ≤ full n) : ACallsF Tryd.prog 80 [dMn n, i64 ((andn (full n) d : Nat) : Int)] (.one (.dv (.bool (decide (rdN n d = 0))))) := by
  have hc36 := le36 ok (andn_le (n := n) (d := d))
  have hd36 := le36 ok hd
  have hf36 := full_lt ok
  have hN := ok.N2
  have hbk := andn_back hd
  have hnd1 := ok.n1
  have hnd2 := ok.n2
  refine callsF_of Tryd.func80 rfl rfl (by rw [Tryd.ntmps80]; simp) fun cx hP hn hg => ?_
  rw [Tryd.ntmps80] at hn
  rw [startF_lk, none_mkM]
  simp only [List.nil_append, List.append_nil, List.cons_append, zipSV, Nat.reduceAdd]
  refine awp_seq ?_
  refine rg ?_
  refine qp m_box ?_
  refine qv m_as ?_
  show AWp cx _ _ _
  refine awp_seq ?_
  refine awp_seq ?_
  refine rg ?_
  refine qv m_as ?_
  show AWp cx _ _ _
  refine awp_block ?_
  refine awp_loop (ι := Nat) (fun k => ⟨lk [(1, .dv (i64 (((andn (full n) d : Nat) : Int)))), (2, .pt 2 0 0), (5, .dv (i64 (k : Nat)))], mkM [(2, 0, some ⟨[.dv (i64 (n.r)), .dv (i64 (n.c)), .dv (i64 (n.nd))], 0, 23, 0, false⟩)]⟩) (fun k => k ≤ n.r * n.c ∧ ∀ j, j < k → rdB n d j = false) (fun k => n.r * n.c - k) 0 ⟨Nat.zero_le _, fun j hj => absurd hj (Nat.not_lt_zero _)⟩ (tl [(2, 2)]) ?_
  intro k hφ0
  refine awp_seq ?_
  refine awp_seq ?_
  refine rg ?_
  refine qv m_mv ?_
  refine qv (m_ldpa sz23 ag23) ?_
  refine qqF (f62 n ok) ?_
  refine qv m_lss ?_
  show AWp cx _ _ _
  refine cd (fun hc0 => ?_) (fun hc0 => ?_)
  · try simp at hc0
    refine awp_skip ?_
    show AWp cx _ _ _
    refine awp_seq ?_
    refine awp_block ?_
    refine awp_seq ?_
    refine rd mixed ?_
    have hk : k < n.r * n.c := by omega
    have hcb : (andn (full n) d).testBit k = !d.testBit k := by rw [andn_bit, full_bit]; simp [hk]
    refine zv m_mv ?_
    refine zv m_mv ?_
    refine zqF (R := []) (f36 (andn (full n) d) k hc36 (by omega)) ?_
    refine zx m_mv (fun hg15 => ?_) (fun hg15 => ?_)
    · skip
      refine zv (m_ldpa sz23 ag23) ?_
      refine zv (m_ldpa sz23 ag23) ?_
      refine zqF (R := []) (f72 n ok) ?_
      refine zv m_mv ?_
      refine zv (m_andnS (ha := hf36) (hb := hc36)) ?_
      rw [hbk]
      refine zv m_mv ?_
      refine zqF (R := []) (f63 n ok d k hd36 hk) ?_
      refine zv (m_fdp fd23_2) ?_
      refine zv (m_ldp sz3 ag3) ?_
      refine zv m_geq ?_
      refine zv m_pk ?_
      refine ⟨by rfl, ?_⟩
      show AWp cx _ _ _
      refine cd (fun hc1 => ?_) (fun hc1 => ?_)
      · skip
        have hrd : rdB n d k = true := by
          rw [rdB_eq ok hk]
          have h3 : decide ((cntR n d k : Int) ≥ (n.nd : Int)) = true := hc1
          rw [hcb] at hg15
          simp at hg15 h3
          simp [hg15]; omega
        refine awp_seq ?_
        refine rg ?_
        refine qv m_as ?_
        show AWp cx _ _ _
        refine awp_ret ?_
        exact x1 (hr := (rB_ (by symm; rw [decide_eq_false_iff_not]; intro h0; have := rdN_bit (n := n) (w := d) (i := k); rw [h0, hrd] at this; simp [hk] at this)))
      · skip
        have hrd : rdB n d k = false := by
          rw [rdB_eq ok hk]
          have h3 : decide ((cntR n d k : Int) ≥ (n.nd : Int)) = false := hc1
          simp at h3
          simp; omega
        refine awp_skip ?_
        show AWp cx _ _ _
        refine rg ?_
        refine qv m_mv ?_
        refine qv m_add ?_
        refine qv m_as ?_
        exact ⟨k + 1, ⟨hk, fun j (hj : j < k + 1) => if h1 : j < k then hφ0.2 j h1 else by have e : j = k := (by omega); subst e; first | exact hrd | (rw [rdB_eq ok hk]; rw [hcb] at hg15; simp at hg15; simp [hg15])⟩, (by simp only; omega), (tl [(2, 2)])⟩
    · skip
      refine zk ?_
      refine zk ?_
      refine zk ?_
      refine zk ?_
      refine zk ?_
      refine zk ?_
      refine zk ?_
      refine zk ?_
      refine zk ?_
      refine zk ?_
      refine zv m_pk ?_
      refine ⟨by rfl, ?_⟩
      show AWp cx _ _ _
      refine cdF (hb := by first | rfl | simp | simp_all) (ht := ?_)
      refine awp_skip ?_
      show AWp cx _ _ _
      refine rg ?_
      refine qv m_mv ?_
      refine qv m_add ?_
      refine qv m_as ?_
      exact ⟨k + 1, ⟨hk, fun j (hj : j < k + 1) => if h1 : j < k then hφ0.2 j h1 else by have e : j = k := (by omega); subst e; first | exact hrd | (rw [rdB_eq ok hk]; rw [hcb] at hg15; simp at hg15; simp [hg15])⟩, (by simp only; omega), (tl [(2, 2)])⟩
  · try simp at hc0
    refine awp_exit ?_
    show AWp cx _ _ _
    refine awp_seq ?_
    refine rg ?_
    refine qv m_as ?_
    show AWp cx _ _ _
    refine awp_ret ?_
    exact x1 (hr := (rB_ (by symm; rw [decide_eq_true_eq]; exact rd_none fun j hj => hφ0.2 j (by omega))))

theorem f39 (m : Mw) (w : Int) : ACallsF Tryd.prog 39 [dMw m, i64 w] (.one (.dv (i64 (if wetE m w = 0 then (if onWet m w false coreB then 0 else 7) else wetE m w)))) := by
  refine callsF_of Tryd.func39 rfl rfl (by rw [Tryd.ntmps39]; simp) fun cx hP hn hg => ?_
  rw [Tryd.ntmps39] at hn
  rw [startF_lk, none_mkM]
  simp only [List.nil_append, List.append_nil, List.cons_append, zipSV, Nat.reduceAdd]
  refine awp_seq ?_
  refine rg ?_
  refine qp m_box ?_
  refine qv m_as ?_
  show AWp cx _ _ _
  refine awp_seq ?_
  refine rg ?_
  refine qv (m_ldpa sz23 ag23) ?_
  refine qv m_mv ?_
  refine qqF (f61 m w) ?_
  refine qv m_as ?_
  show AWp cx _ _ _
  refine awp_seq ?_
  refine awp_seq ?_
  refine rg ?_
  refine qv m_mv ?_
  refine qv m_neq ?_
  show AWp cx _ _ _
  refine cd (fun hc0 => ?_) (fun hc0 => ?_)
  · skip
    have hne : ¬ wetE m w = 0 := by simpa using hc0
    refine awp_seq ?_
    refine rg ?_
    refine qv m_mv ?_
    refine qv m_as ?_
    show AWp cx _ _ _
    refine awp_ret ?_
    exact x1 (hr := (rI_ (by rw [if_neg hne])))
  · skip
    have he : wetE m w = 0 := by simpa using hc0
    obtain ⟨n, v, ok, rfl, rfl, hv⟩ := wetE_ok he
    have hv36 := le36 ok hv
    have hwe := wetE_v ok hv
    refine awp_skip ?_
    show AWp cx _ _ _
    refine awp_seq ?_
    refine awp_seq ?_
    refine rg ?_
    refine qv (m_ldpa sz23 ag23) ?_
    refine qv m_mv ?_
    have hbk := andn_back hv
    have hce := core_eq ok (andn_le (n := n) (d := v))
    rw [hbk] at hce
    have hcall := f80 n ok (andn (full n) v) andn_le
    rw [hbk, ← hce] at hcall
    refine qqF (hcall) ?_
    refine qv m_not ?_
    show AWp cx _ _ _
    refine cd (fun hc1 => ?_) (fun hc1 => ?_)
    · skip
      refine awp_seq ?_
      refine rg ?_
      refine qv m_as ?_
      show AWp cx _ _ _
      refine awp_ret ?_
      exact x1 (hr := (rI_ (by rw [hwe, onWet_ok ok hv]; simp_all)))
    · skip
      refine awp_skip ?_
      show AWp cx _ _ _
      refine awp_seq ?_
      refine rg ?_
      refine qv m_as ?_
      show AWp cx _ _ _
      refine awp_ret ?_
      exact x1 (hr := (rI_ (by rw [hwe, onWet_ok ok hv]; simp_all)))

end Go.Ab.Tryd
