/- BogQ4, BogQ5, BogLk, Ab56, BogQ6, BogQ7, BogQ8. -/
import Derived.Test.YtjcecljhjailiaaGreatDoorBogG32
import Derived.Test.YtjcecljhjailiaaGreatDoorBogG33
import Derived.Test.YtjcecljhjailiaaGreatDoorBogG33
import Derived.Test.YtjcecljhjailiaaGreatDoorBogG09
import Derived.Conc.MuLone
import Derived.Test.YtjcecljhjailiaaGreatDoorBogG32
import Derived.Test.YtjcecljhjailiaaGreatDoorBogG30
import Derived.Test.YtjcecljhjailiaaGreatDoorBogG29
set_option linter.all false
namespace Go.Ab.Tryz
open Go Go.Ab Go.Proofs Go.Ab.Moss Go.Ab.Bog
open Go.Ab.Heap (ata ata_get ata_set)
open Go.Ab.Heap (Hp dHp validate sm)
theorem step_at {b : Bg} {h : Hp} {n : Int} {c : Cs} (F : Fn b h n) (ok : CsOk b h n c) : ACallsF Tryz.prog 150 [dMw (mwOf b n), i64 (c.wet : Int)] (.many [.dv (i64 ((c.wet ||| rdN (mnOf b n) c.wet : Nat) : Int)), .dv (i64 0)]) := by
  have h1 := f150 (mwOf b n) (c.wet : Int)
  have h2 := onWet_ok F.mn (ok.wet n) (d := (0 : Int)) (g := fun n v => ((v ||| rdN n v : Nat) : Int))
  have h3 := wetE_v F.mn (ok.wet n)
  rw [F.mw] at h1 ⊢
  rw [h2, h3] at h1
  exact h1
theorem step_full {b : Bg} {h : Hp} {n : Int} {c : Cs} (F : Fn b h n) (ok : CsOk b h n c) : c.wet ||| rdN (mnOf b n) c.wet < 68719476736 := by
  have h1 := le36 F.mn (ok.wet n)
  have h2 := rdN_lt F.mn (w := c.wet)
  exact Nat.or_lt_two_pow (n := 36) h1 h2
set_option maxHeartbeats 4000000 in
set_option maxRecDepth 100000 in
theorem f102_day (b : Bg) (h : Hp) (n : Int) (c : Cs) (s : Int) (F : Fn b h n) (ok : CsOk b h n c) : ACallsG Tryz.prog 102 [.pt 100001 0 0, .pt 100000 0 0, .dv (.agg [i64 0, ints []])] (mkB (three b h n c c s)) ⟨[.dv (errD (0))], mkB (three b h n c (dayL b n c) s)⟩ := by
  have hwf := le36 F.mn (ok.wet n)
  have hsf := step_full F ok
  have hbf := le36 F.mn (bare_full ok.hol n)
  have hd0 := ok.day0
  have hd1 := ok.day
  have ho := ok.ord
  have hab : (c.wet ||| rdN (mnOf b n) c.wet) &&& bareL b c.hollow < 68719476736 := Nat.lt_of_le_of_lt Nat.and_le_right hbf
  refine callsG_of Tryz.func102 rfl rfl (by rw [Tryz.ntmps102]; simp) fun cx hP hn hg => ?_
  rw [Tryz.ntmps102] at hn
  refine startG ?_
  refine awp_seq ?_
  refine rg ?_
  refine qp m_box ?_
  refine qv m_as ?_
  show AWp cx _ _ _
  refine awp_seq ?_
  refine awp_seq ?_
  refine rg ?_
  refine qv (m_fdp fd138_0) ?_
  refine qv (m_ldp sz136 ag136) ?_
  show AWp cx _ _ _
  refine awp_block ?_
  refine awp_seq ?_
  refine rg ?_
  refine qv m_eql ?_
  refine qv m_as ?_
  show AWp cx _ _ _
  refine cdT (hb := by decide) (ht := ?_)
  refine awp_seq ?_
  refine rd mixed ?_
  refine zv m_mv ?_
  refine zv m_nc ?_
  refine zv (m_fdp fd100_3) ?_
  refine zv (m_ldpa sz65 ag65) ?_
  refine zv m_mv ?_
  refine zv m_nc ?_
  refine zv (m_fdp fd98_3) ?_
  refine zv (m_ldp sz3 ag3) ?_
  refine zqF (R := []) (step_at F ok) ?_
  refine zv m_mv ?_
  refine zv m_ext ?_
  refine zv m_ext ?_
  refine zv m_as ?_
  refine zv m_as ?_
  refine ⟨by rfl, ?_⟩
  show AWp cx _ _ _
  refine awp_seq ?_
  refine awp_seq ?_
  refine rg ?_
  refine qv m_mv ?_
  refine qv m_neq ?_
  show AWp cx _ _ _
  refine cdF (hb := by simp) (ht := ?_)
  refine awp_skip ?_
  show AWp cx _ _ _
  refine awp_seq ?_
  refine rg ?_
  refine qv m_mv ?_
  refine qv m_nc ?_
  refine qv (m_fdp fd98_0) ?_
  refine qv (m_ldp sz3 ag3) ?_
  refine qv m_add ?_
  refine qv m_nc ?_
  refine qv (m_fdp fd98_0) ?_
  refine qs (m_st sz3) ?_
  show AWp cx _ _ _
  refine rd mixed ?_
  refine zv m_mv ?_
  refine zv m_nc ?_
  refine zv (m_fdp fd98_3) ?_
  refine zv (m_ldp sz3 ag3) ?_
  refine zv m_mv ?_
  refine zv m_mv ?_
  refine zqF (R := [100001]) (f151 b h n c s ok.hol) ?_ (ha := (args_cons (data_co (by (first | (simp only [mkM, reduceIte, Nat.reduceEqDiff] <;> rfl) | (simp [rst, mkM] <;> rfl)))) args_nil))
  refine zv (m_andS (ha := by omega) (hb := by omega)) ?_
  refine zv (m_orS (ha := by omega) (hb := by omega)) ?_
  refine zv m_nc ?_
  refine zv (m_fdp fd98_3) ?_
  refine zs (m_st sz3) ?_
  refine ⟨by rfl, ?_⟩
  show AWp cx _ _ _
  refine awp_seq ?_
  refine rg ?_
  refine qv m_as ?_
  show AWp cx _ _ _
  refine awp_ret ?_
  rw [errD_0]
  exact xg [(100000, 100000), (100001, 100001), (100002, 100002)] (h2 := by simp [MLe, blkLe, svLes, svLe, isLive, tauL, mkB, mkM, frzF, svLes_ints, svLes_self, svLes_txs, isDvs, isDvs_map, isDvs_app, isDvs_take, isDvs_set, isDvs_repl, OwS, dayL])
set_option maxHeartbeats 4000000 in
set_option maxRecDepth 100000 in
theorem f102_dig (b : Bg) (h : Hp) (n : Int) (c : Cs) (s : Int) (F : Fn b h n) (ok : CsOk b h n c) (k : Nat) (hk : k < 1000) : ACallsG Tryz.prog 102 [.pt 100001 0 0, .pt 100000 0 0, .dv (.agg [i64 1, ints [(k : Int)]])] (mkB (three b h n c c s)) ⟨[.dv (errD (digE b c k))], mkB (three b h n c (orS (digE b c k) (digS b h c k) c) s)⟩ := by
  have g0 : ([(k : Int)] : List Int)[0]? = some (k : Int) := rfl
  refine callsG_of Tryz.func102 rfl rfl (by rw [Tryz.ntmps102]; simp) fun cx hP hn hg => ?_
  rw [Tryz.ntmps102] at hn
  refine startG ?_
  refine awp_seq ?_
  refine rg ?_
  refine qp m_box ?_
  refine qv m_as ?_
  show AWp cx _ _ _
  refine awp_seq ?_
  refine awp_seq ?_
  refine rg ?_
  refine qv (m_fdp fd138_0) ?_
  refine qv (m_ldp sz136 ag136) ?_
  show AWp cx _ _ _
  refine awp_block ?_
  refine awp_seq ?_
  refine rg ?_
  refine qv m_eql ?_
  refine qv m_as ?_
  show AWp cx _ _ _
  refine cdF (hb := by decide) (ht := ?_)
  refine awp_seq ?_
  refine rg ?_
  refine qv m_eql ?_
  refine qv m_as ?_
  show AWp cx _ _ _
  refine cdT (hb := by decide) (ht := ?_)
  refine awp_seq ?_
  refine rg ?_
  refine qv m_mv ?_
  refine qv m_mv ?_
  refine qv (m_fdp fd138_1) ?_
  refine qv (m_ldp sz25 ag25) ?_
  first | refine qv (m_ixN el25 sz3) ?_ | refine qv (m_ix el25 sz3) ?_
  refine qv (m_ld sz3 ag3) ?_
  refine qqG (f152 b h n c s k F ok hk) [] [(100000, 100000), (100001, 100001), (100002, 100002)] [100000, 100001, 100002] ?_
  refine qv m_as ?_
  show AWp cx _ _ _
  refine awp_ret ?_
  exact xg [(100000, 100000), (100001, 100001), (100002, 100002)]
set_option maxHeartbeats 4000000 in
set_option maxRecDepth 100000 in
theorem f102_load (b : Bg) (h : Hp) (n : Int) (c : Cs) (s : Int) (F : Fn b h n) (ok : CsOk b h n c) (i m : Nat) (hi : i < 1000) (hm : m < 1000) : ACallsG Tryz.prog 102 [.pt 100001 0 0, .pt 100000 0 0, .dv (.agg [i64 2, ints [(i : Int), (m : Int)]])] (mkB (three b h n c c s)) ⟨[.dv (errD (loadE c i m))], mkB (three b h n c (orS (loadE c i m) (loadS c i m) c) s)⟩ := by
  have g0 : ([(i : Int), (m : Int)] : List Int)[0]? = some (i : Int) := rfl
  have g1 : ([(i : Int), (m : Int)] : List Int)[1]? = some (m : Int) := rfl
  refine callsG_of Tryz.func102 rfl rfl (by rw [Tryz.ntmps102]; simp) fun cx hP hn hg => ?_
  rw [Tryz.ntmps102] at hn
  refine startG ?_
  refine awp_seq ?_
  refine rg ?_
  refine qp m_box ?_
  refine qv m_as ?_
  show AWp cx _ _ _
  refine awp_seq ?_
  refine awp_seq ?_
  refine rg ?_
  refine qv (m_fdp fd138_0) ?_
  refine qv (m_ldp sz136 ag136) ?_
  show AWp cx _ _ _
  refine awp_block ?_
  refine awp_seq ?_
  refine rg ?_
  refine qv m_eql ?_
  refine qv m_as ?_
  show AWp cx _ _ _
  refine cdF (hb := by decide) (ht := ?_)
  refine awp_seq ?_
  refine rg ?_
  refine qv m_eql ?_
  refine qv m_as ?_
  show AWp cx _ _ _
  refine cdF (hb := by decide) (ht := ?_)
  refine awp_seq ?_
  refine rg ?_
  refine qv m_eql ?_
  refine qv m_as ?_
  show AWp cx _ _ _
  refine cdT (hb := by decide) (ht := ?_)
  refine awp_seq ?_
  refine rd mixed ?_
  refine zv m_mv ?_
  refine zv m_mv ?_
  refine zv (m_fdp fd138_1) ?_
  refine zv (m_ldp sz25 ag25) ?_
  first | refine zv (m_ixN el25 sz3) ?_ | refine zv (m_ix el25 sz3) ?_
  refine zv (m_ld sz3 ag3) ?_
  refine zv (m_fdp fd138_1) ?_
  refine zv (m_ldp sz25 ag25) ?_
  first | refine zv (m_ixN el25 sz3) ?_ | refine zv (m_ix el25 sz3) ?_
  refine zv (m_ld sz3 ag3) ?_
  refine zqG (f153 b h n c s i m F ok hi hm) [] [(100000, 100000), (100001, 100001), (100002, 100002)] [100000, 100001, 100002] ?_
  refine zv m_as ?_
  refine ⟨by rfl, ?_⟩
  show AWp cx _ _ _
  refine awp_ret ?_
  exact xg [(100000, 100000), (100001, 100001), (100002, 100002)]
set_option maxHeartbeats 4000000 in
set_option maxRecDepth 100000 in
theorem f102_lay (b : Bg) (h : Hp) (n : Int) (c : Cs) (s : Int) (F : Fn b h n) (ok : CsOk b h n c) (r k : Nat) (hr : r < 1000) (hk : k < 1000) : ACallsG Tryz.prog 102 [.pt 100001 0 0, .pt 100000 0 0, .dv (.agg [i64 3, ints [(r : Int), (k : Int)]])] (mkB (three b h n c c s)) ⟨[.dv (errD (layE b c r k))], mkB (three b h n c (orS (layE b c r k) (layS b c r k) c) s)⟩ := by
  have g0 : ([(r : Int), (k : Int)] : List Int)[0]? = some (r : Int) := rfl
  have g1 : ([(r : Int), (k : Int)] : List Int)[1]? = some (k : Int) := rfl
  refine callsG_of Tryz.func102 rfl rfl (by rw [Tryz.ntmps102]; simp) fun cx hP hn hg => ?_
  rw [Tryz.ntmps102] at hn
  refine startG ?_
  refine awp_seq ?_
  refine rg ?_
  refine qp m_box ?_
  refine qv m_as ?_
  show AWp cx _ _ _
  refine awp_seq ?_
  refine awp_seq ?_
  refine rg ?_
  refine qv (m_fdp fd138_0) ?_
  refine qv (m_ldp sz136 ag136) ?_
  show AWp cx _ _ _
  refine awp_block ?_
  refine awp_seq ?_
  refine rg ?_
  refine qv m_eql ?_
  refine qv m_as ?_
  show AWp cx _ _ _
  refine cdF (hb := by decide) (ht := ?_)
  refine awp_seq ?_
  refine rg ?_
  refine qv m_eql ?_
  refine qv m_as ?_
  show AWp cx _ _ _
  refine cdF (hb := by decide) (ht := ?_)
  refine awp_seq ?_
  refine rg ?_
  refine qv m_eql ?_
  refine qv m_as ?_
  show AWp cx _ _ _
  refine cdF (hb := by decide) (ht := ?_)
  refine awp_seq ?_
  refine rg ?_
  refine qv m_eql ?_
  refine qv m_as ?_
  show AWp cx _ _ _
  refine cdT (hb := by decide) (ht := ?_)
  refine awp_seq ?_
  refine rd mixed ?_
  refine zv m_mv ?_
  refine zv m_mv ?_
  refine zv (m_fdp fd138_1) ?_
  refine zv (m_ldp sz25 ag25) ?_
  first | refine zv (m_ixN el25 sz3) ?_ | refine zv (m_ix el25 sz3) ?_
  refine zv (m_ld sz3 ag3) ?_
  refine zv (m_fdp fd138_1) ?_
  refine zv (m_ldp sz25 ag25) ?_
  first | refine zv (m_ixN el25 sz3) ?_ | refine zv (m_ix el25 sz3) ?_
  refine zv (m_ld sz3 ag3) ?_
  refine zqG (f154 b h n c s r k F ok hr hk) [] [(100000, 100000), (100001, 100001), (100002, 100002)] [100000, 100001, 100002] ?_
  refine zv m_as ?_
  refine ⟨by rfl, ?_⟩
  show AWp cx _ _ _
  refine awp_ret ?_
  exact xg [(100000, 100000), (100001, 100001), (100002, 100002)]
set_option maxHeartbeats 4000000 in
set_option maxRecDepth 100000 in
theorem f102_shut (b : Bg) (h : Hp) (n : Int) (c : Cs) (s : Int) (F : Fn b h n) (ok : CsOk b h n c) : ACallsG Tryz.prog 102 [.pt 100001 0 0, .pt 100000 0 0, .dv (.agg [i64 4, ints []])] (mkB (three b h n c c s)) ⟨[.dv (errD (if c.shut then 5 else 0))], mkB (three b h n c (orS (if c.shut then 5 else 0) { c with shut := true } c) s)⟩ := by
  refine callsG_of Tryz.func102 rfl rfl (by rw [Tryz.ntmps102]; simp) fun cx hP hn hg => ?_
  rw [Tryz.ntmps102] at hn
  refine startG ?_
  refine awp_seq ?_
  refine rg ?_
  refine qp m_box ?_
  refine qv m_as ?_
  show AWp cx _ _ _
  refine awp_seq ?_
  refine awp_seq ?_
  refine rg ?_
  refine qv (m_fdp fd138_0) ?_
  refine qv (m_ldp sz136 ag136) ?_
  show AWp cx _ _ _
  refine awp_block ?_
  refine awp_seq ?_
  refine rg ?_
  refine qv m_eql ?_
  refine qv m_as ?_
  show AWp cx _ _ _
  refine cdF (hb := by decide) (ht := ?_)
  refine awp_seq ?_
  refine rg ?_
  refine qv m_eql ?_
  refine qv m_as ?_
  show AWp cx _ _ _
  refine cdF (hb := by decide) (ht := ?_)
  refine awp_seq ?_
  refine rg ?_
  refine qv m_eql ?_
  refine qv m_as ?_
  show AWp cx _ _ _
  refine cdF (hb := by decide) (ht := ?_)
  refine awp_seq ?_
  refine rg ?_
  refine qv m_eql ?_
  refine qv m_as ?_
  show AWp cx _ _ _
  refine cdF (hb := by decide) (ht := ?_)
  refine awp_seq ?_
  refine rg ?_
  refine qv m_eql ?_
  refine qv m_as ?_
  show AWp cx _ _ _
  refine cdT (hb := by decide) (ht := ?_)
  refine awp_seq ?_
  refine awp_seq ?_
  refine rg ?_
  refine qv m_mv ?_
  refine qv m_nc ?_
  refine qv (m_fdp fd98_7) ?_
  refine qv (m_ldp sz4 ag4) ?_
  show AWp cx _ _ _
  refine cd (fun hc6 => ?_) (fun hc6 => ?_)
  · try simp at hc6
    refine awp_seq ?_
    refine rg ?_
    refine qv (m_bld pl133 ze133) ?_
    refine q_ifc ⟨_, Tryz.underlying133, by intro ms; nofun⟩ ?_
    refine qv m_as ?_
    show AWp cx _ _ _
    refine awp_ret ?_
    have hs : c.shut = true := by simpa using hc6
    rw [if_pos hs, errD_n (by decide), orS_n (by decide)]
    exact xg [(100000, 100000), (100001, 100001), (100002, 100002)]
  · try simp at hc6
    refine awp_skip ?_
    show AWp cx _ _ _
    refine rg ?_
    refine qv m_mv ?_
    refine qv m_nc ?_
    refine qv (m_fdp fd98_7) ?_
    refine qs (m_st sz4) ?_
    show AWp cx _ _ _
    refine awp_seq ?_
    refine rg ?_
    refine qv m_as ?_
    show AWp cx _ _ _
    refine awp_ret ?_
    have hs : c.shut = false := by simpa using hc6
    rw [if_neg (by simp [hs]), errD_0, orS_0]
    exact xg [(100000, 100000), (100001, 100001), (100002, 100002)]
theorem ord_cases {T : Tx} {o : Nat × List Nat} (h : parseL T = some o) : o = (0, []) ∨ (∃ k, o = (1, [k]) ∧ k < 1000) ∨ (∃ i m, o = (2, [i, m]) ∧ i < 1000 ∧ m < 1000) ∨ (∃ r k, o = (3, [r, k]) ∧ r < 1000 ∧ k < 1000) ∨ o = (4, []) := by
  unfold parseL at h
  split at h
  · cases h
  · rename_i w ws hs
    split at h
    · cases h
    · rename_i k c hk
      split at h
      · cases h
      · rename_i hc
        obtain ⟨ns, hns, rfl⟩ := Option.map_eq_some_iff.1 h
        obtain ⟨h1, h2⟩ := numsW_len hns
        have hcl : ns.length = c := by omega
        clear hc h1 hns hs h
        unfold kindW at hk
        split at hk
        · simp only [Option.some.injEq, Prod.mk.injEq] at hk; obtain ⟨rfl, rfl⟩ := hk
          exact .inl (by rw [List.eq_nil_of_length_eq_zero hcl])
        · split at hk
          · simp only [Option.some.injEq, Prod.mk.injEq] at hk; obtain ⟨rfl, rfl⟩ := hk
            match ns, hcl, h2 with
            | [x], _, h2 => exact .inr (.inl ⟨x, rfl, h2 x (by simp)⟩)
          · split at hk
            · simp only [Option.some.injEq, Prod.mk.injEq] at hk; obtain ⟨rfl, rfl⟩ := hk
              match ns, hcl, h2 with
              | [x, y], _, h2 => exact .inr (.inr (.inl ⟨x, y, rfl, h2 x (by simp), h2 y (by simp)⟩))
            · split at hk
              · simp only [Option.some.injEq, Prod.mk.injEq] at hk; obtain ⟨rfl, rfl⟩ := hk
                match ns, hcl, h2 with
                | [x, y], _, h2 => exact .inr (.inr (.inr (.inl ⟨x, y, rfl, h2 x (by simp), h2 y (by simp)⟩)))
              · split at hk
                · simp only [Option.some.injEq, Prod.mk.injEq] at hk; obtain ⟨rfl, rfl⟩ := hk
                  exact .inr (.inr (.inr (.inr (by rw [List.eq_nil_of_length_eq_zero hcl]))))
                · cases hk
theorem f102 (b : Bg) (h : Hp) (n : Int) (c : Cs) (s : Int) (F : Fn b h n) (ok : CsOk b h n c) {T : Tx} {o : Nat × List Nat} (ho : parseL T = some o) : ACallsG Tryz.prog 102 [.pt 100001 0 0, .pt 100000 0 0, .dv (dOrd o)] (mkB (three b h n c c s)) ⟨[.dv (errD (exeE b c o))], mkB (three b h n c (orS (exeE b c o) (exeS b h n c o) c) s)⟩ := by
  rcases ord_cases ho with rfl | ⟨k, rfl, hk⟩ | ⟨i, m, rfl, hi, hm⟩ | ⟨r, k, rfl, hr, hk⟩ | rfl
  · exact f102_day b h n c s F ok
  · exact f102_dig b h n c s F ok k hk
  · exact f102_load b h n c s F ok i m hi hm
  · exact f102_lay b h n c s F ok r k hr hk
  · exact f102_shut b h n c s F ok
end Go.Ab.Tryz
set_option linter.all false
namespace Go.Ab.Tryz
open Go Go.Ab Go.Proofs Go.Ab.Moss Go.Ab.Bog
open Go.Ab.Heap (ata ata_get ata_set)
open Go.Ab.Heap (Hp dHp validate sm)
abbrev pair (b : Bg) (h : Hp) (n : Int) (c : Cs) (s : Int) (st : Nat) : List (Nat × Blk) := [(100000, coB b h n c s 100001 100003), (100001, rowXs c.orders st)]
theorem errD_nil (e : Int) : ifcNil (errD e) = some (decide (e = 0)) := by
  unfold errD
  by_cases h : e = 0
  · rw [if_pos h, decide_eq_true h]; rfl
  · rw [if_neg h, decide_eq_false h]; rfl
theorem exe_orders {b : Bg} {h : Hp} {n : Int} {c : Cs} {o : Nat × List Nat} : (exeS b h n c o).orders = c.orders := by
  unfold exeS
  split <;> rfl
theorem parse_yes {T : Tx} {o : Nat × List Nat} (h : parseL T = some o) (hT : T.length < 1000000) : ACallsF Tryz.prog 101 [dTx T] (.many [.dv (dOrd o), .dv (.bool true)]) := by
  have h1 := f101 T hT
  unfold ordT at h1
  rw [h] at h1; exact h1
theorem parse_not {T : Tx} (h : parseL T = none) (hT : T.length < 1000000) : ACallsF Tryz.prog 101 [dTx T] (.many [.dv (dOrd (0, [])), .dv (.bool false)]) := by
  have h1 := f101 T hT
  unfold ordT at h1
  rw [h] at h1; exact h1
set_option maxHeartbeats 4000000 in
set_option maxRecDepth 100000 in
theorem f65_no (b : Bg) (h : Hp) (n : Int) (c : Cs) (s : Int) (F : Fn b h n) (ok : CsOk b h n c) (T : Tx) (hT : T.length < 1000000) (hp : parseL T = none) : ACallsG Tryz.prog 65 [.pt 100000 0 0, .dv (dTx T)] (mkB (pair b h n c s 100004)) ⟨[.dv (errD 2)], mkB (pair b h n (c) s 100004)⟩ := by
  have hol := ok.ord
  refine callsG_of Tryz.func65 rfl rfl (by rw [Tryz.ntmps65]; simp) fun cx hP hn hg => ?_
  rw [Tryz.ntmps65] at hn
  refine startG ?_
  refine awp_seq ?_
  refine rg ?_
  refine qv m_as ?_
  show AWp cx _ _ _
  refine awp_seq ?_
  refine rg ?_
  refine qv m_mv ?_
  refine qqF (parse_not hp hT) ?_
  refine qv m_mv ?_
  refine qv m_ext ?_
  refine qv m_ext ?_
  refine qp (m_al ze138) ?_
  refine qs (m_st sz138) ?_
  refine qv m_as ?_
  show AWp cx _ _ _
  refine awp_seq ?_
  refine awp_seq ?_
  refine rg ?_
  refine qv m_mv ?_
  refine qv m_not ?_
  show AWp cx _ _ _
  refine cdT (hb := by rfl) (ht := ?_)
  refine awp_seq ?_
  refine rg ?_
  refine qv (m_bld pl133 ze133) ?_
  refine q_ifc ⟨_, Tryz.underlying133, by intro ms; nofun⟩ ?_
  refine qv m_as ?_
  show AWp cx _ _ _
  refine awp_ret ?_
  rw [errD_n (by decide)]
  exact xg [(100000, 100000), (100001, 100001)]
set_option maxHeartbeats 4000000 in
set_option maxRecDepth 100000 in
theorem f65_full (b : Bg) (h : Hp) (n : Int) (c : Cs) (s : Int) (F : Fn b h n) (ok : CsOk b h n c) (T : Tx) (hT : T.length < 1000000) {o : Nat × List Nat} (ho : parseL T = some o) (hl : 100 ≤ c.orders.length) : ACallsG Tryz.prog 65 [.pt 100000 0 0, .dv (dTx T)] (mkB (pair b h n c s 100004)) ⟨[.dv (errD 3)], mkB (pair b h n (c) s 100004)⟩ := by
  have hol := ok.ord
  refine callsG_of Tryz.func65 rfl rfl (by rw [Tryz.ntmps65]; simp) fun cx hP hn hg => ?_
  rw [Tryz.ntmps65] at hn
  refine startG ?_
  refine awp_seq ?_
  refine rg ?_
  refine qv m_as ?_
  show AWp cx _ _ _
  refine awp_seq ?_
  refine rg ?_
  refine qv m_mv ?_
  refine qqF (parse_yes ho hT) ?_
  refine qv m_mv ?_
  refine qv m_ext ?_
  refine qv m_ext ?_
  refine qp (m_al ze138) ?_
  refine qs (m_st sz138) ?_
  refine qv m_as ?_
  show AWp cx _ _ _
  refine awp_seq ?_
  refine awp_seq ?_
  refine rg ?_
  refine qv m_mv ?_
  refine qv m_not ?_
  show AWp cx _ _ _
  refine cdF (hb := by rfl) (ht := ?_)
  refine awp_skip ?_
  show AWp cx _ _ _
  refine awp_seq ?_
  refine awp_seq ?_
  refine rg ?_
  refine qv m_mv ?_
  refine qv m_nc ?_
  refine qv (m_fdp fd100_4) ?_
  refine qv (m_fdp fd98_8) ?_
  refine qv (m_ldp sz30 ag30) ?_
  refine qv (m_lenR il30) ?_
  refine qv m_geq ?_
  show AWp cx _ _ _
  refine cdT (hb := (by simp; omega)) (ht := ?_)
  refine awp_seq ?_
  refine rg ?_
  refine qv (m_bld pl133 ze133) ?_
  refine q_ifc ⟨_, Tryz.underlying133, by intro ms; nofun⟩ ?_
  refine qv m_as ?_
  show AWp cx _ _ _
  refine awp_ret ?_
  rw [errD_n (by decide)]
  exact xg [(100000, 100000), (100001, 100001)]
set_option maxHeartbeats 4000000 in
set_option maxRecDepth 100000 in
theorem f65_exe (b : Bg) (h : Hp) (n : Int) (c : Cs) (s : Int) (F : Fn b h n) (ok : CsOk b h n c) (T : Tx) (hT : T.length < 1000000) {o : Nat × List Nat} (ho : parseL T = some o) (hl : c.orders.length < 100) (he : exeE b c o ≠ 0) : ACallsG Tryz.prog 65 [.pt 100000 0 0, .dv (dTx T)] (mkB (pair b h n c s 100004)) ⟨[.dv (errD (exeE b c o))], mkB (pair b h n (c) s 100004)⟩ := by
  have hol := ok.ord
  refine callsG_of Tryz.func65 rfl rfl (by rw [Tryz.ntmps65]; simp) fun cx hP hn hg => ?_
  rw [Tryz.ntmps65] at hn
  refine startG ?_
  refine awp_seq ?_
  refine rg ?_
  refine qv m_as ?_
  show AWp cx _ _ _
  refine awp_seq ?_
  refine rg ?_
  refine qv m_mv ?_
  refine qqF (parse_yes ho hT) ?_
  refine qv m_mv ?_
  refine qv m_ext ?_
  refine qv m_ext ?_
  refine qp (m_al ze138) ?_
  refine qs (m_st sz138) ?_
  refine qv m_as ?_
  show AWp cx _ _ _
  refine awp_seq ?_
  refine awp_seq ?_
  refine rg ?_
  refine qv m_mv ?_
  refine qv m_not ?_
  show AWp cx _ _ _
  refine cdF (hb := by rfl) (ht := ?_)
  refine awp_skip ?_
  show AWp cx _ _ _
  refine awp_seq ?_
  refine awp_seq ?_
  refine rg ?_
  refine qv m_mv ?_
  refine qv m_nc ?_
  refine qv (m_fdp fd100_4) ?_
  refine qv (m_fdp fd98_8) ?_
  refine qv (m_ldp sz30 ag30) ?_
  refine qv (m_lenR il30) ?_
  refine qv m_geq ?_
  show AWp cx _ _ _
  refine cdF (hb := (by simp; omega)) (ht := ?_)
  refine awp_skip ?_
  show AWp cx _ _ _
  refine awp_seq ?_
  refine rg ?_
  refine qv m_mv ?_
  refine qv m_nc ?_
  refine qv (m_fdp fd100_4) ?_
  refine qv (m_ldpa sz98 ag98) ?_
  refine qp (m_al ze98) ?_
  refine qs (m_st sz98) ?_
  show AWp cx _ _ _
  refine awp_seq ?_
  refine awp_seq ?_
  refine rg ?_
  refine qv m_mv ?_
  refine qv (m_ldpa sz138 ag138) ?_
  refine qqG (f102 b h n c s F ok ho) [] [(100000, 7), (100001, 100000), (100002, 100001)] [7, 100000, 100001] ?_
  refine qv m_as ?_
  show AWp cx _ _ _
  refine awp_seq ?_
  refine rg ?_
  refine qv m_mv ?_
  refine q_ine u103 (errD_nil _) ?_
  show AWp cx _ _ _
  refine cdT (hb := (by simp [he])) (ht := ?_)
  refine awp_seq ?_
  refine rg ?_
  refine qv m_mv ?_
  refine qv m_as ?_
  show AWp cx _ _ _
  refine awp_ret ?_
  exact xg [(100000, 100000), (100001, 100001)]
set_option maxHeartbeats 4000000 in
set_option maxRecDepth 100000 in
theorem f65_yes (b : Bg) (h : Hp) (n : Int) (c : Cs) (s : Int) (F : Fn b h n) (ok : CsOk b h n c) (T : Tx) (hT : T.length < 1000000) {o : Nat × List Nat} (ho : parseL T = some o) (hl : c.orders.length < 100) (he : exeE b c o = 0) : ACallsG Tryz.prog 65 [.pt 100000 0 0, .dv (dTx T)] (mkB (pair b h n c s 100004)) ⟨[.dv (errD 0)], mkB (pair b h n ({ exeS b h n c o with orders := c.orders ++ [T] }) s 0)⟩ := by
  have hol := ok.ord
  have hex := f102 b h n c s F ok ho
  rw [he, errD_0, orS_0] at hex
  have hexo := exe_orders (b := b) (h := h) (n := n) (c := c) (o := o)
  simp only [three, stB, stC, hexo] at hex
  refine callsG_of Tryz.func65 rfl rfl (by rw [Tryz.ntmps65]; simp) fun cx hP hn hg => ?_
  rw [Tryz.ntmps65] at hn
  refine startG ?_
  refine awp_seq ?_
  refine rg ?_
  refine qv m_as ?_
  show AWp cx _ _ _
  refine awp_seq ?_
  refine rg ?_
  refine qv m_mv ?_
  refine qqF (parse_yes ho hT) ?_
  refine qv m_mv ?_
  refine qv m_ext ?_
  refine qv m_ext ?_
  refine qp (m_al ze138) ?_
  refine qs (m_st sz138) ?_
  refine qv m_as ?_
  show AWp cx _ _ _
  refine awp_seq ?_
  refine awp_seq ?_
  refine rg ?_
  refine qv m_mv ?_
  refine qv m_not ?_
  show AWp cx _ _ _
  refine cdF (hb := by rfl) (ht := ?_)
  refine awp_skip ?_
  show AWp cx _ _ _
  refine awp_seq ?_
  refine awp_seq ?_
  refine rg ?_
  refine qv m_mv ?_
  refine qv m_nc ?_
  refine qv (m_fdp fd100_4) ?_
  refine qv (m_fdp fd98_8) ?_
  refine qv (m_ldp sz30 ag30) ?_
  refine qv (m_lenR il30) ?_
  refine qv m_geq ?_
  show AWp cx _ _ _
  refine cdF (hb := (by simp; omega)) (ht := ?_)
  refine awp_skip ?_
  show AWp cx _ _ _
  refine awp_seq ?_
  refine rg ?_
  refine qv m_mv ?_
  refine qv m_nc ?_
  refine qv (m_fdp fd100_4) ?_
  refine qv (m_ldpa sz98 ag98) ?_
  refine qp (m_al ze98) ?_
  refine qs (m_st sz98) ?_
  show AWp cx _ _ _
  refine awp_seq ?_
  refine awp_seq ?_
  refine rg ?_
  refine qv m_mv ?_
  refine qv (m_ldpa sz138 ag138) ?_
  refine qqG (hex) [] [(100000, 7), (100001, 100000), (100002, 100001)] [7, 100000, 100001] ?_
  refine qv m_as ?_
  show AWp cx _ _ _
  refine awp_seq ?_
  refine rg ?_
  refine qv m_mv ?_
  refine q_ine u103 (c := true) rfl ?_
  show AWp cx _ _ _
  refine cdF (hb := by rfl) (ht := ?_)
  refine awp_skip ?_
  show AWp cx _ _ _
  refine awp_seq ?_
  refine rg ?_
  refine qv (m_fdp fd98_8) ?_
  refine qv (m_ldp sz30 ag30) ?_
  refine qv m_mv ?_
  refine qr (m_bsl el30 ze9 sz9) ?_
  refine qa1 (m_app1 el30 el30 ze9 sz9 by9 (hc := tx_snoc)) ?_
  refine qv (m_fdp fd98_8) ?_
  refine qs (m_st sz30) ?_
  show AWp cx _ _ _
  refine awp_seq ?_
  refine rg ?_
  refine qv m_mv ?_
  refine qv (m_ldpa sz98 ag98) ?_
  refine qv m_nc ?_
  refine qv (m_fdp fd100_4) ?_
  refine qs (m_st sz98) ?_
  show AWp cx _ _ _
  refine awp_seq ?_
  refine rg ?_
  refine qv m_as ?_
  show AWp cx _ _ _
  refine awp_ret ?_
  rw [errD_0]
  exact xg [(100000, 100000), (100001, 41)]
theorem f65 (b : Bg) (h : Hp) (n : Int) (c : Cs) (s : Int) (F : Fn b h n) (ok : CsOk b h n c) (T : Tx) (hT : T.length < 1000000) : ACallsG Tryz.prog 65 [.pt 100000 0 0, .dv (dTx T)] (mkB (pair b h n c s 100004)) ⟨[.dv (errD (doE b c T))], mkB (pair b h n (doS b h n c T) s 0)⟩ := by
  have own : ∀ e, ACallsG Tryz.prog 65 [.pt 100000 0 0, .dv (dTx T)] (mkB (pair b h n c s 100004)) ⟨[.dv (errD e)], mkB (pair b h n c s 100004)⟩ → ACallsG Tryz.prog 65 [.pt 100000 0 0, .dv (dTx T)] (mkB (pair b h n c s 100004)) ⟨[.dv (errD e)], mkB (pair b h n c s 0)⟩ := fun e hh =>
    hh.own ⟨rfl, .inl rfl, rfl, .inr ⟨Nat.le_of_ble_eq_true rfl, rfl⟩, trivial⟩
  by_cases e : doE b c T = 0
  · obtain ⟨o, h1, h2, h3, h4⟩ := do_good (h := h) (n := n) e
    rw [e, h4]
    exact f65_yes b h n c s F ok T hT h1 h2 h3
  · rw [do_bad e]
    refine own _ ?_
    unfold doE at e ⊢
    cases hp : parseL T with
    | none => exact f65_no b h n c s F ok T hT hp
    | some o =>
      rw [hp] at e
      simp only at e ⊢
      by_cases hl : 100 ≤ c.orders.length
      · rw [if_pos hl]; exact f65_full b h n c s F ok T hT hp hl
      · rw [if_neg hl] at e ⊢; exact f65_exe b h n c s F ok T hT hp (by omega) e
end Go.Ab.Tryz
set_option linter.all false
namespace Go.Ab.Tryz
open Go Go.Ab Go.Proofs Go.Conc.Locks
abbrev muLink : MuLink := { lock := 62, unlock := 63, ilock := 98, iunlock := 99, lockSlow := 140, unlockSlow := 143, disable := 136, enable := 138, acquire := 139, relMerge := 141, cas32 := 137, add32 := 142, tMutex := 96, tIMutex := 94, tPMutex := 131, tPIMutex := 170, tPI32 := 172, tUP := 174, tNoCopy := 91, tU32 := 92 }
theorem muLib : MuLib Tryz.prog muLink where
  f_lock := Tryz.func62
  f_unlock := Tryz.func63
  f_ilock := Tryz.func98
  f_iunlock := Tryz.func99
  f_disable := Tryz.func136
  f_enable := Tryz.func138
  f_acquire := Tryz.func139
  f_relMerge := Tryz.func141
  f_cas32 := Tryz.func137
  f_add32 := Tryz.func142
  underlying_tIMutex := Tryz.underlying94
  runUnderlying_tIMutex := fun w => run_underlying Tryz.underlying94 w
  sizeOf_tIMutex := Tryz.sizeOf94
  isAgg_tIMutex := Tryz.isAgg94
  zeroValue_tIMutex := Tryz.zeroValue94
  underlying_tMutex := Tryz.underlying96
  runUnderlying_tMutex := fun w => run_underlying Tryz.underlying96 w
  sizeOf_tMutex := Tryz.sizeOf96
  isAgg_tMutex := Tryz.isAgg96
  zeroValue_tMutex := Tryz.zeroValue96
  underlying_tPMutex := Tryz.underlying131
  runUnderlying_tPMutex := fun w => run_underlying Tryz.underlying131 w
  sizeOf_tPMutex := Tryz.sizeOf131
  isAgg_tPMutex := Tryz.isAgg131
  zeroValue_tPMutex := Tryz.zeroValue131
  underlying_tPIMutex := Tryz.underlying170
  runUnderlying_tPIMutex := fun w => run_underlying Tryz.underlying170 w
  sizeOf_tPIMutex := Tryz.sizeOf170
  isAgg_tPIMutex := Tryz.isAgg170
  zeroValue_tPIMutex := Tryz.zeroValue170
  underlying_tPI32 := Tryz.underlying172
  runUnderlying_tPI32 := fun w => run_underlying Tryz.underlying172 w
  sizeOf_tPI32 := Tryz.sizeOf172
  isAgg_tPI32 := Tryz.isAgg172
  zeroValue_tPI32 := Tryz.zeroValue172
  underlying_tUP := Tryz.underlying174
  runUnderlying_tUP := fun w => run_underlying Tryz.underlying174 w
  sizeOf_tUP := Tryz.sizeOf174
  isAgg_tUP := Tryz.isAgg174
  zeroValue_tUP := Tryz.zeroValue174
  underlying_tNoCopy := Tryz.underlying91
  runUnderlying_tNoCopy := fun w => run_underlying Tryz.underlying91 w
  sizeOf_tNoCopy := Tryz.sizeOf91
  isAgg_tNoCopy := Tryz.isAgg91
  zeroValue_tNoCopy := Tryz.zeroValue91
  underlying_t21 := Tryz.underlying21
  runUnderlying_t21 := fun w => run_underlying Tryz.underlying21 w
  sizeOf_t21 := Tryz.sizeOf21
  isAgg_t21 := Tryz.isAgg21
  zeroValue_t21 := Tryz.zeroValue21
  room_tIMutex := by kernel_rfl
end Go.Ab.Tryz
set_option linter.all false
namespace Go.Ab
open Go.RowKit Go.Conc.Locks
section
variable {cx : Cx} {S : St} {ops : Array Oper}
theorem chain_end : ∀ {l : List Oper} {S : St} {K : St → Prop}, Chain cx ops l S K → ∃ S1, Chain cx ops l S (fun S' => S' = S1) ∧ K S1
  | [], S, K, h => ⟨S, rfl, h⟩
  | o :: l, S, K, ⟨S', h1, h2⟩ => by
    obtain ⟨S1, h3, h4⟩ := chain_end h2
    exact ⟨S1, ⟨S', h1, h3⟩, h4⟩
theorem awp_defer3 (hg : cx.Good) {P : Program} {fn : Func} {L : MuLink} {Y : Yld} (hP : cx.P = P) (hrn : cx.rnd = none) (hdq : cx.dq = []) (hfin : ∀ a w, FinD P L.unlock fn Y cx.w0 cx.X0 cx.Wr cx.loc a w → cx.fin a w)
    {id : Nat} {o1 o2 o3 : Oper} {x : Operand} {ts : Array TypeId} {ty : TypeId} {p : String} {af : Array Edge} {rest : Code} {K : Exit → St → Prop}
    (hch : Chain cx [o1, o2, o3, (⟨none, .defer { callee := .value (.func L.unlock), args := #[x], argTypes := ts }, ty, p, af, none⟩ : Oper)].toArray [o1, o2, o3] S fun S' => ∃ t g off blk, S'.ev x = .pt t g off ∧ S'.M t = (g, some blk) ∧ 3 ≤ blk.st ∧
      ∀ cx' : Cx, cx'.P = P → cx'.n = cx.n → cx'.Good → AWp cx' rest (EndU P fn.results.toList Y (blk.st - 3) off) S') :
    AWp cx (.seq (.region id [o1, o2, o3, (⟨none, .defer { callee := .value (.func L.unlock), args := #[x], argTypes := ts }, ty, p, af, none⟩ : Oper)].toArray false) rest) K S := by
  obtain ⟨S1, h1, t, g, off, blk, h2, h3, h4, h5⟩ := chain_end hch
  exact awp_defer hg (L := L) (fn := fn) (Y := Y) hP hrn hdq hfin (lo := [o1, o2, o3]) h1 h2 h3 h4 h5
end
theorem xu {P : Program} {rv : List ResultVar} {Y : Yld} {i off g : Nat} {blk : Blk} {l : List (Nat × SV)} {m m' : List (Nat × Nat × Option Blk)} (t : Nat) (k : EndG P rv Y .ret ⟨lk l, mkM ((t, g, some { blk with cells := putCells blk.cells off [.dv (.int .i32 0)] }) :: m')⟩)
    (hM : mkM m t = (g, some blk) := by (simp only [mkM, reduceIte, Nat.reduceEqDiff] <;> rfl)) (hst : blk.st = i + 3 := by rfl) (h1 : blk.cells[off]? = some (.dv (.int .i32 1)) := by rfl) (hv : nvL m = m' := by (simp only [nvL, killV] <;> rfl)) : EndU P rv Y i off .ret ⟨lk l, mkM m⟩ := by
  subst hv
  refine ⟨rfl, t, g, blk, hM, hst, h1, ?_⟩
  show EndG P rv Y .ret ⟨lk l, upd (noViews (mkM m)) t _⟩
  rw [noViews_mkM, upd_mkM]
  exact k
end Go.Ab
namespace Go.Ab
open Go.RowKit
def ftP (P : Program) (s : TypeId) (f : Nat) : Option (Nat × TypeId) :=
  match P.underlying s with
  | some (.struct fs) => (fs[f]?).map fun fl => (fl.offset, fl.type)
  | _ => none
section
variable {cx : Cx} {P : Program} {N : Nat} {ops : Array Oper} {rest : List Oper} {l : List (Nat × SV)} {m : List (Nat × Nat × Option Blk)} {K : St → Prop} {d t ty f off ft : Nat} {p : String} {af : Array Edge} {x : Operand} {gd : Option (Nat × Bool)}
theorem q_fld {cs : List DV} {c : DV} (hf : ftP P t f = some (off, ft)) (ha : aggP P ft = some false) (hc : cs[off]? = some c) (kk : Chain cx ops rest ⟨lk ((d, .dv c) :: l), mkM m⟩ K)
    (hx : St.ev ⟨lk l, mkM m⟩ x = .dv (.agg cs) := by (simp only [St.look, St.ev, lk, mkM, blkOf, svOf, svOfCell, reduceIte, Nat.reduceAdd, Nat.reduceEqDiff, Nat.reduceMul] <;> rfl)) (hP : cx.P = P := by assumption) (hn : cx.n = N := by assumption) (hd : d < N := by decide)
    (hgd : GOk ops ⟨lk l, mkM m⟩ gd := by (first | exact trivial | exact ⟨_, rfl, by (simp only [lk, reduceIte, Nat.reduceEqDiff])⟩)) :
    Chain cx ops (⟨some d, .field t x f, ty, p, af, gd⟩ :: rest) ⟨lk l, mkM m⟩ K := by
  subst hP; subst hn
  refine ⟨⟨lk ((d, .dv c) :: l), mkM m⟩, gstep_of hgd (.sem fun hg a w ⟨μ, h⟩ => Runs.does ?_), kk⟩
  have hv := h.ev x
  rw [hx] at hv
  simp only [SVRep] at hv
  have hap : (⟨lk l, mkM m⟩ : St).apply cx.n (some d) (.val (.dv c)) = some ⟨lk ((d, .dv c) :: l), mkM m⟩ := by
    have := apply_eff (eff_val (r := .dv c) hd ⟨lk l, mkM m⟩)
    rw [this, app_val]
  generalize hxv : a.eval x = v at hv
  cases hv with
  | agg _ vs hsz hh =>
    have hlt : off < vs.size := by rw [hsz]; exact (List.getElem?_eq_some_iff.1 hc).1
    have h1 := hh off c hc
    refine runs_val h (v := vs.getD off undef) ?_ (by simp only [SVRep]; exact h1) hap
    unfold ftP at hf
    split at hf
    · rename_i fs hu
      obtain ⟨fl, h2, h3⟩ := Option.map_eq_some_iff.1 hf
      simp only [Prod.mk.injEq] at h3
      obtain ⟨rfl, rfl⟩ := h3
      have hrun : (Instr.field t (.agg vs) f).run cx.P w = .ok (vs.getD fl.offset undef) w := by
        have hg : vs[fl.offset]? = some (vs.getD fl.offset undef) := by simp [hlt]
        unfold Instr.field
        simp only [Sem.run_bind, run_underlying hu, Result.andThen_ok, h2]
        show (do let cs ← asAgg (.agg vs); part fl.type cs fl.offset : Sem Value).run cx.P w = _
        simp only [Sem.run_bind]
        show Result.andThen (Result.ok vs w) _ = _
        simp only [Result.andThen_ok]
        unfold part
        simp only [Sem.run_bind, aggP_run ha, Result.andThen_ok, hg]
        rfl
      unfold execOp
      simp only [Sem.run_bind, hxv, hrun]
      rfl
    · cases hf
end
end Go.Ab
set_option linter.all false
namespace Go.Ab.Tryz
open Go Go.Ab Go.Proofs Go.Ab.Moss Go.Ab.Bog
open Go.Ab.Heap (Hp dHp validate sm ata)
theorem en62 : EnterP Tryz.prog 62 := ⟨_, Tryz.func62, rfl, rfl⟩
theorem en63 : EnterP Tryz.prog 63 := ⟨_, Tryz.func63, rfl, rfl⟩
theorem ip34 : isPtrP Tryz.prog 34 = true := by kernel_rfl
set_option maxHeartbeats 4000000 in
set_option maxRecDepth 100000 in
theorem f24 (b : Bg) (h : Hp) (n : Int) (c : Cs) (F : Fn b h n) (ok : CsOk b h n c) (T : Tx) (hT : T.length < 1000000) : ACallsG Tryz.prog 24 [.pt 100000 0 0, .dv (dTx T)] (mkB (pair b h n c 0 100004)) ⟨[.dv (i64 (doE b c T))], mkB (pair b h n (doS b h n c T) 0 0)⟩ := by
  refine callsGD_of muLib en63 Tryz.func24 rfl rfl (by rw [Tryz.ntmps24]; simp) fun cx hP hn hg hrn hdq hfin => ?_
  rw [Tryz.ntmps24] at hn
  refine startG ?_
  refine awp_seq ?_
  refine rg ?_
  refine qv m_as ?_
  show AWp cx _ _ _
  refine awp_seq ?_
  refine awp_seq ?_
  refine rg ?_
  refine qv m_mv ?_
  refine q_pnl ip34 ?_
  show AWp cx _ _ _
  refine cdF (hb := rfl) (ht := ?_)
  refine awp_skip ?_
  show AWp cx _ _ _
  refine awp_seq ?_
  refine rg ?_
  refine qv m_mv ?_
  refine qv m_nc ?_
  refine qv (m_fdp fd100_0) ?_
  refine q_lock muLib en62 ?_
  show AWp cx _ _ ⟨lk _, mkM [(100000, 0, some (coB b h n c 1 100001 100003)), (100000, 0, some (coB b h n c 0 100001 100003)), (100001, 0, some (rowXs c.orders 100004))]⟩
  refine awp_defer3 hg (L := muLink) (fn := Proofs.Tryz.f24) hP hrn hdq hfin ?_
  refine qv m_mv ?_
  refine qv m_nc ?_
  refine qv (m_fdp fd100_0) ?_
  refine ⟨100000, 0, 0, _, (by simp only [St.look, St.ev, lk, mkM, blkOf, svOf, svOfCell, reduceIte, Nat.reduceAdd, Nat.reduceEqDiff, Nat.reduceMul] <;> rfl), (by simp only [mkM, reduceIte, Nat.reduceEqDiff] <;> rfl), Nat.le_of_ble_eq_true rfl, fun cx1 hP1 hn1 hg1 => ?_⟩
  rw [hn] at hn1
  refine awp_seq ?_
  refine rg ?_
  refine qv m_mv ?_
  refine qv m_mv ?_
  refine qqG (f65 b h n c 1 F ok T hT) [] [(100000, 100000), (100001, 100001)] [100000, 100001] ?_
  refine qqF (f64 (doE b c T)) ?_
  refine qv m_as ?_
  show AWp cx1 _ _ _
  refine awp_ret ?_
  refine xu 100000 ?_
  exact xg [(100000, 100000), (100001, 100001)] (h2 := by simp [MLe, blkLe, svLes, svLe, isLive, tauL, mkB, mkM, frzF, svLes_ints, svLes_self, svLes_txs, isDvs, isDvs_map, isDvs_app, isDvs_take, isDvs_set, isDvs_repl, OwS, putCells])
end Go.Ab.Tryz
set_option linter.all false
namespace Go.Ab.Tryz
open Go Go.Ab Go.Proofs Go.Ab.Moss Go.Ab.Bog
open Go.Ab.Heap (Hp dHp validate sm ata)
abbrev dSt (c : Cs) : DV := .agg [i64 c.day, ints c.hollow, ints c.turves, i64 (c.wet : Int), i64 c.money, i64 c.cut, i64 c.loaded, .bool c.shut, txs c.orders]
theorem data_txsS {ok : Nat → Prop} {okd : DV → Prop} {M : Nat → Nat × Option Blk} {t g n st : Nat} {L : List Tx} (hM : M t = (g, some (rowXs L st))) (hst : ok st) (hl : L.length = n) (hd : ∀ T, okd (dTx T)) : Data ok okd M (.sl t g 0 n) (txs L) := by
  have hf : flat (L.map dTx) = L.map dTx := flat_one fun _ => rfl
  refine data_row hM hst (by simpa using hl) (fun d hd' => ?_) ?_ fun c hc' => ?_
  · obtain ⟨q, _, rfl⟩ := List.mem_map.1 hd'; rfl
  · rw [hf]; simp
  · rw [hf] at hc'; obtain ⟨q, _, rfl⟩ := List.mem_map.1 hc'; exact hd q
set_option maxHeartbeats 4000000 in
set_option maxRecDepth 100000 in
theorem f68 (b : Bg) (h : Hp) (n : Int) (c : Cs) (F : Fn b h n) (ok : CsOk b h n c) : ACallsG Tryz.prog 68 [.pt 100000 0 0] (mkB (pair b h n c 0 100004)) ⟨[.dv (dSt c)], mkB (pair b h n c 0 100004)⟩ := by
  have hhl := ok.hol.len
  have hn6 := F.bg.n6
  have htl := ok.tlen
  have hg5 := F.vh.n5
  have hol := ok.ord
  refine callsGD_of muLib en63 Tryz.func68 rfl rfl (by rw [Tryz.ntmps68]; simp) fun cx hP hn hg hrn hdq hfin => ?_
  rw [Tryz.ntmps68] at hn
  refine startG ?_
  refine awp_seq ?_
  refine rg ?_
  refine qp (m_al ze98) ?_
  show AWp cx _ _ _
  refine awp_seq ?_
  refine awp_seq ?_
  refine rg ?_
  refine qv m_mv ?_
  refine q_pnl ip34 ?_
  show AWp cx _ _ _
  refine cdF (hb := rfl) (ht := ?_)
  refine awp_skip ?_
  show AWp cx _ _ _
  refine awp_seq ?_
  refine rg ?_
  refine qv m_mv ?_
  refine qv m_nc ?_
  refine qv (m_fdp fd100_0) ?_
  refine q_lock muLib en62 ?_
  show AWp cx _ _ _
  refine AWp.le (tl [(2, 2), (100000, 100000), (100001, 100001)] (l := [(0, .pt 100000 0 0), (2, .pt 2 0 0)]) (m := [(2, 0, some ⟨[.dv (i64 0), .nils, .nils, .dv (i64 0), .dv (i64 0), .dv (i64 0), .dv (i64 0), .dv (.bool false), .nils], 0, 98, 0, false⟩), (100000, 0, some (coB b h n c 1 100001 100003)), (100001, 0, some (rowXs c.orders 100004))]) (hM := by simp [MLe, blkLe, svLes, svLe, lk, mkM, isLive, tauL, svLes_ints, svLes_self, svLes_txs, isDvs, isDvs_map, isDvs_app, isDvs_take, isDvs_set, isDvs_repl, putCells])) ?_
  refine awp_defer3 hg (L := muLink) (fn := Proofs.Tryz.f68) hP hrn hdq hfin ?_
  refine qv m_mv ?_
  refine qv m_nc ?_
  refine qv (m_fdp fd100_0) ?_
  refine ⟨100000, 0, 0, _, (by simp only [St.look, St.ev, lk, mkM, blkOf, svOf, svOfCell, reduceIte, Nat.reduceAdd, Nat.reduceEqDiff, Nat.reduceMul] <;> rfl), (by simp only [mkM, reduceIte, Nat.reduceEqDiff] <;> rfl), Nat.le_of_ble_eq_true rfl, fun cx1 hP1 hn1 hg1 => ?_⟩
  rw [hn] at hn1
  refine awp_seq ?_
  refine rg ?_
  refine qv m_mv ?_
  refine qv m_nc ?_
  refine qv (m_fdp fd100_4) ?_
  refine qv (m_ldpa sz98 ag98) ?_
  refine qp (m_al ze98) ?_
  refine qs (m_st sz98) ?_
  show AWp cx1 _ _ _
  refine awp_seq ?_
  refine rd mixed ?_
  refine zv (m_fdp fd98_1) ?_
  refine zv (m_ldp sz25 ag25) ?_
  refine zqF (R := []) (f97 c.hollow (by omega)) ?_
  refine zv (m_fdp fd98_2) ?_
  refine zv (m_ldp sz25 ag25) ?_
  refine zqF (R := []) (f97 c.turves (by omega)) ?_
  refine zv (m_fdp fd98_8) ?_
  refine zv (m_ldp sz30 ag30) ?_
  refine zqF (R := [100001]) (f105 c.orders (by omega)) ?_ (ha := args_cons (data_txsS (by (first | (simp only [mkM, reduceIte, Nat.reduceEqDiff] <;> rfl) | (simp [rst, mkM] <;> rfl))) trivial rfl (fun _ => trivial)) args_nil) (hS := res_rX1 (by simp only [mkM, reduceIte, Nat.reduceEqDiff] <;> rfl))
  refine zv (m_fdp fd98_1) ?_
  refine zs (m_st sz25) ?_
  refine zv (m_fdp fd98_2) ?_
  refine zs (m_st sz25) ?_
  refine zv (m_fdp fd98_8) ?_
  refine zs (m_st sz30) ?_
  refine ⟨by rfl, ?_⟩
  show AWp cx1 _ _ _
  refine awp_frz 20 ?_
  refine awp_frz 23 ?_
  refine awp_frz 26 ?_
  refine awp_seq ?_
  refine rg ?_
  refine qv (m_ldpa sz98 ag98) ?_
  refine qs (m_st sz98) ?_
  show AWp cx1 _ _ _
  refine awp_ret ?_
  refine xu 100000 ?_
  have e1 : (putCells (coB b h n c 1 100001 100003).cells 0 [SV.dv (DV.int IntKind.i32 0)]) = coC b h n c 0 100001 := rfl
  rw [e1]
  refine xg (ss := [.agg [.dv (i64 c.day), .sl 20 1 0 c.hollow.length, .sl 23 1 0 c.turves.length, .dv (i64 (c.wet : Int)), .dv (i64 c.money), .dv (i64 c.cut), .dv (i64 c.loaded), .dv (.bool c.shut), .sl 26 1 0 c.orders.length]]) [(100000, 100000), (100001, 100001)] (hs := ?_) (h1 := ?_) (h2 := ?_)
  · simp only [resSV, loadSV, St.look, St.ev, lk, mkM, blkOf, svOf, svOfCell, sz98, ag98, reduceIte, Nat.reduceEqDiff]; rfl
  · refine ⟨?_, trivial⟩
    simp only [svLe]
    refine .agg _ _ rfl fun j s d hs hd => ?_
    match j, hs, hd with
    | 0, hs, hd => cases hs; cases hd; exact .dv _ trivial
    | 1, hs, hd => cases hs; cases hd; exact data_ints (L := c.hollow) rfl rfl rfl rfl rfl (fun _ => trivial)
    | 2, hs, hd => cases hs; cases hd; exact data_ints (L := c.turves) rfl rfl rfl rfl rfl (fun _ => trivial)
    | 3, hs, hd => cases hs; cases hd; exact .dv _ trivial
    | 4, hs, hd => cases hs; cases hd; exact .dv _ trivial
    | 5, hs, hd => cases hs; cases hd; exact .dv _ trivial
    | 6, hs, hd => cases hs; cases hd; exact .dv _ trivial
    | 7, hs, hd => cases hs; cases hd; exact .dv _ trivial
    | 8, hs, hd => cases hs; cases hd; exact data_txsS (L := c.orders) (st := 1) rfl rfl rfl (fun _ => trivial)
  · simp [MLe, blkLe, svLes, svLe, isLive, tauL, mkB, mkM, frzF, svLes_ints, svLes_self, svLes_txs, isDvs, isDvs_map, isDvs_app, isDvs_take, isDvs_set, isDvs_repl, OwS]
end Go.Ab.Tryz
set_option linter.all false
namespace Go.Ab.Tryz
open Go Go.Ab Go.Proofs Go.Ab.Moss Go.Ab.Bog
open Go.Ab.Heap (ata ata_get ata_set)
open Go.Ab.Heap (Hp dHp validate sm)
theorem ft98_4 : ftP Tryz.prog 98 4 = some (4, 3) := by kernel_rfl
theorem ft98_5 : ftP Tryz.prog 98 5 = some (5, 3) := by kernel_rfl
theorem f52 (b : Bg) (h : Hp) (n : Int) (c : Cs) (F : Fn b h n) (ok : CsOk b h n c) : ACallsG Tryz.prog 52 [.pt 100000 0 0] (mkB (pair b h n c 0 100004)) ⟨[.dv (i64 c.money)], mkB (pair b h n c 0 100004)⟩ := by
  refine callsG_of Tryz.func52 rfl rfl (by rw [Tryz.ntmps52]; simp) fun cx hP hn hg => ?_
  rw [Tryz.ntmps52] at hn
  refine startG ?_
  refine awp_seq ?_
  refine rg ?_
  refine qv m_as ?_
  show AWp cx _ _ _
  refine awp_seq ?_
  refine rg ?_
  refine qv m_mv ?_
  refine qqG (f68 b h n c F ok) [] [(100000, 100000), (100001, 100001)] [100000, 100001] ?_
  refine q_fld ft98_4 ag3 rfl ?_
  refine qv m_as ?_
  show AWp cx _ _ _
  refine awp_ret ?_
  exact xg [(100000, 100000), (100001, 100001)]
theorem f53 (b : Bg) (h : Hp) (n : Int) (c : Cs) (F : Fn b h n) (ok : CsOk b h n c) : ACallsG Tryz.prog 53 [.pt 100000 0 0] (mkB (pair b h n c 0 100004)) ⟨[.dv (i64 c.cut)], mkB (pair b h n c 0 100004)⟩ := by
  refine callsG_of Tryz.func53 rfl rfl (by rw [Tryz.ntmps53]; simp) fun cx hP hn hg => ?_
  rw [Tryz.ntmps53] at hn
  refine startG ?_
  refine awp_seq ?_
  refine rg ?_
  refine qv m_as ?_
  show AWp cx _ _ _
  refine awp_seq ?_
  refine rg ?_
  refine qv m_mv ?_
  refine qqG (f68 b h n c F ok) [] [(100000, 100000), (100001, 100001)] [100000, 100001] ?_
  refine q_fld ft98_5 ag3 rfl ?_
  refine qv m_as ?_
  show AWp cx _ _ _
  refine awp_ret ?_
  exact xg [(100000, 100000), (100001, 100001)]
end Go.Ab.Tryz
