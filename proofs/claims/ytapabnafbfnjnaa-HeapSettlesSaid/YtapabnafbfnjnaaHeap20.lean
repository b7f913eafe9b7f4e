/- The functions of the heap laws, part 20. The walks are written by wip/gen/gw.py. -/
import Derived.Test.YtapabnafbfnjnaaHeap19
import Derived.Test.YtapabnafbfnjnaaHeapFacts
import Derived.Test.YtapabnafbfnjnaaHeapPT
set_option linter.all false
namespace Go.Ab.Try
open Go Go.Ab Go.Proofs Go.Ab.Heap

theorem spF_bdq {h : Hp} (v : VH h) {a s : List Int} (x : Hpg30 h a) : ∀ {q : Nat}, (∀ i, i < q + 1 → -1000 ≤ ata s i ∧ ata s i ≤ 1000) → q ≤ h.ground.length → ∀ j, j < h.ground.length → -(30 + 14000 * (q : Int)) ≤ ata (spF h a s q) j ∧ ata (spF h a s q) j ≤ 30 + 14000 * (q : Int)
  | 0, _, _, j, hj => by have := x.bd j hj; simp only [spF]; omega
  | q + 1, hs, hq, j, hj => by
    have ih := spF_bdq v x (q := q) (fun i hi => hs i (by omega)) (by omega) j hj
    have h1 := hs q (by omega)
    have h2 := v.lb q j (by omega) hj
    have h3 := v.lim1 (i := q) (by omega)
    have h4 := v.lim12 (i := q) (by omega)
    have p1 := mul_abs (a := ata s q) (b := h.sp.lim q) (A := 1000) (B := 12) (by omega) (by omega) (by omega) h4
    have p2 := mul_abs (a := ata s q) (b := lnk h q j) (A := 1000) (B := 2) (by omega) (by omega) (by omega) (by omega)
    simp only [spF]
    rw [topL_at hj]
    split <;> omega


set_option maxHeartbeats 4000000 in
theorem f41 (h : Hp) (a l : List Int) (hll : l.length < 1000000) : ACallsF Try.prog 41 [dHp h, ints a, ints l] (.many [rI (listR h a l).1, .dv (i64 (listR h a l).2.1), .dv (i64 (listR h a l).2.2)]) := by
  refine callsF_of Try.func41 rfl rfl (by rw [Try.ntmps41]; simp) fun cx hP hn hg => ?_
  rw [Try.ntmps41] at hn
  rw [startF_lk, none_mkM]
  simp only [List.nil_append, List.append_nil, List.cons_append, zipSV, Nat.reduceAdd]
  refine awp_seq ?_
  refine rg ?_
  refine qp m_box ?_
  refine qv m_as ?_
  refine qv m_as ?_
  refine qv m_as ?_
  show AWp cx _ _ _
  refine awp_seq ?_
  refine rg ?_
  refine qv (m_ldpa sz25 ag25) ?_
  refine qv m_mv ?_
  refine qr (m_bsl el22 ze23 sz23) ?_
  refine qqF (f76 h [a] (by simp)) ?_ (ha := (args_cons data_dv (args_cons (data_rows (L := [a]) (by simp only [mkM, reduceIte, Nat.reduceEqDiff] <;> rfl) trivial rfl (fun _ => trivial)) args_nil)))
  refine qv m_as ?_
  show AWp cx _ _ _
  refine awp_seq ?_
  refine awp_seq ?_
  refine rg ?_
  refine qv m_mv ?_
  refine qv m_neq ?_
  show AWp cx _ _ _
  refine cd (fun hc0 => ?_) (fun hc0 => ?_)
  · skip
    have he0 : checkE h [a] ≠ 0 := by simpa using hc0
    refine awp_seq ?_
    refine rg ?_
    refine qv m_mv ?_
    refine qv m_as ?_
    refine qv m_as ?_
    refine qv m_as ?_
    show AWp cx _ _ _
    refine awp_ret ?_
    exact x3 (hr := (rN_ (by rw [list_bad he0]))) (hr' := (rI_ (by rw [list_bad he0]))) (hr'' := (rI_ (by rw [list_bad he0])))
  · skip
    have he0 : checkE h [a] = 0 := by simpa using hc0
    obtain ⟨v, h30⟩ := check1 he0
    have h5 := v.n5
    have hal := h30.len
    have f := Fit.of30 h30
    refine awp_skip ?_
    show AWp cx _ _ _
    refine awp_seq ?_
    refine awp_seq ?_
    refine rg ?_
    refine qv m_mv ?_
    refine qv (m_len il23) ?_
    refine qv m_gtr ?_
    show AWp cx _ _ _
    refine cd (fun hc1 => ?_) (fun hc1 => ?_)
    · skip
      have hlg : 200 < l.length := by simp at hc1; omega
      refine awp_seq ?_
      refine rg ?_
      refine qv m_as ?_
      refine qv m_as ?_
      refine qv m_as ?_
      show AWp cx _ _ _
      refine awp_ret ?_
      exact x3 (hr := (rN_ (by rw [list_long he0 hlg]))) (hr' := (rI_ (by rw [list_long he0 hlg]))) (hr'' := (rI_ (by rw [list_long he0 hlg])))
    · skip
      have hlg : ¬ 200 < l.length := by simp at hc1; omega
      refine awp_skip ?_
      show AWp cx _ _ _
      refine awp_seq ?_
      refine awp_seq ?_
      refine rg ?_
      refine qv m_as ?_
      show AWp cx _ _ _
      refine awp_block ?_
      refine awp_loop (ι := Nat) (fun q => ⟨lk [(1, .dv (ints (a))), (2, .dv (ints (l))), (3, .pt 3 0 0), (10, .dv (i64 (q : Nat)))], mkM [(3, 0, some ⟨[.dv (.list ((h.links).map ints)), .dv (ints (h.ground))], 0, 25, 0, false⟩)]⟩) (fun q => q ≤ l.length ∧ ∀ j, j < q → inR (ata l j) 0 ((a.length : Int) - 1) = true) (fun q => l.length - q) 0 (by simp) (tl [(3, 3)]) ?_
      intro q hφ0
      refine awp_seq ?_
      refine awp_seq ?_
      refine rg ?_
      refine qv m_mv ?_
      refine qv m_mv ?_
      refine qv (m_len il23) ?_
      refine qv m_lss ?_
      show AWp cx _ _ _
      refine cd (fun hc2 => ?_) (fun hc2 => ?_)
      · try simp at hc2
        have hgq := ata_get (a := l) (i := q) (by omega)
        refine awp_skip ?_
        show AWp cx _ _ _
        refine awp_seq ?_
        refine awp_block ?_
        refine awp_seq ?_
        refine rg ?_
        refine qv m_mv ?_
        refine qv m_mv ?_
        first | refine qv (m_ixN el23 sz3) ?_ | refine qv (m_ix el23 sz3) ?_
        refine qv (m_ld sz3 ag3) ?_
        refine qv m_mv ?_
        refine qv (m_len il23) ?_
        refine qv m_sub ?_
        refine qqF (f78 (ata l q) 0 ((a.length : Int) - 1)) ?_
        refine qv m_not ?_
        show AWp cx _ _ _
        refine cd (fun hc3 => ?_) (fun hc3 => ?_)
        · skip
          have hno := list_none he0 hlg hgq (by simpa using hc3)
          refine awp_seq ?_
          refine rg ?_
          refine qv m_as ?_
          refine qv m_as ?_
          refine qv m_as ?_
          show AWp cx _ _ _
          refine awp_ret ?_
          exact x3 (hr := (rN_ (by rw [hno]))) (hr' := (rI_ (by rw [hno]))) (hr'' := (rI_ (by rw [hno])))
        · skip
          refine awp_skip ?_
          show AWp cx _ _ _
          refine rg ?_
          refine qv m_mv ?_
          refine qv m_add ?_
          refine qv m_as ?_
          refine ⟨q + 1, ?_, (by simp only; omega), (tl [(3, 3)])⟩
          refine ⟨by omega, fun j hj => ?_⟩
          rcases Nat.lt_or_ge j q with h1 | h1
          · exact hφ0.2 j h1
          · obtain rfl : j = q := by omega
            simpa using hc3
      · try simp at hc2
        have hall : ∀ j, j < l.length → inR (ata l j) 0 ((a.length : Int) - 1) = true := fun j hj => hφ0.2 j (by omega)
        have hlo0 := list_ok he0 hlg hall
        refine awp_exit ?_
        show AWp cx _ _ _
        refine awp_seq ?_
        refine rg ?_
        refine qr (m_bsl el23 ze3 sz3) ?_
        refine qv m_mv ?_
        refine qa1 (m_app1 el23 el23 ze3 sz3 by3) ?_
        refine qv m_as ?_
        show AWp cx _ _ _
        refine awp_seq ?_
        refine awp_seq ?_
        refine rg ?_
        refine qv m_as ?_
        show AWp cx _ _ _
        refine awp_block ?_
        refine awp_loop (ι := List Int × Nat) (fun s => ⟨lk [(2, .dv (ints (l))), (3, .pt 3 0 0), (11, .sl 11 0 0 h.ground.length), (12, .dv (i64 (s.2 : Nat)))], mkM [(3, 0, some ⟨[.dv (.list ((h.links).map ints)), .dv (ints (h.ground))], 0, 25, 0, false⟩), (11, 0, some (rowI s.1))]⟩) (fun s => CInv h a l s.1 s.2) (fun s => l.length - s.2) (a, 0) (CInv.start l h30.hpg) (tl [(3, 3), (11, 40)] (hF := by simp [FLe, svLe, lk, mkM, isLive, tauL, hal]) (hM := by simp [MLe, blkLe, svLe, svLes, lk, mkM, isLive, tauL, svLes_ints, svLes_self, isDvs, isDvs_map, isDvs_app, isDvs_take, isDvs_set, isDvs_repl, hal])) ?_
        intro ⟨out, q⟩ hφ1
        dsimp only at hφ1 ⊢
        have hqle := hφ1.qle
        obtain ⟨t, I⟩ := hφ1.I
        have hol := I.lc
        have hcb := f.cb v I
        refine awp_seq ?_
        refine awp_seq ?_
        refine rg ?_
        refine qv m_mv ?_
        refine qv m_mv ?_
        refine qv (m_len il23) ?_
        refine qv m_lss ?_
        show AWp cx _ _ _
        refine cd (fun hc4 => ?_) (fun hc4 => ?_)
        · try simp at hc4
          obtain ⟨x, hxk, hxe⟩ := inR_ex (n := h.ground.length) (by rw [← hal]; exact hall q (by omega))
          have hgx : l[q]? = some (x : Int) := by rw [← hxe]; exact ata_get (by omega)
          have hgo := ata_get (a := out) (i := x) (by omega)
          have hcx := hcb.1 x hxk
          refine awp_skip ?_
          show AWp cx _ _ _
          refine awp_seq ?_
          refine awp_block ?_
          refine awp_seq ?_
          refine awp_seq ?_
          refine rd mixed ?_
          refine zv m_mv ?_
          refine zv m_mv ?_
          refine zv m_mv ?_
          first | refine zv (m_ixN el23 sz3) ?_ | refine zv (m_ix el23 sz3) ?_
          refine zv (m_ld sz3 ag3) ?_
          refine zv (m_ixR el23 sz3) ?_
          refine zv (m_ldI sz3 ag3 (hq := hgo)) ?_
          refine zv (m_ldpa sz25 ag25) ?_
          refine zv m_mv ?_
          refine zv m_mv ?_
          first | refine zv (m_ixN el23 sz3) ?_ | refine zv (m_ix el23 sz3) ?_
          refine zv (m_ld sz3 ag3) ?_
          refine zqF (R := []) (f79 h v x hxk) ?_
          refine zv m_lss ?_
          refine ⟨by rfl, ?_⟩
          show AWp cx _ _ _
          refine cd (fun hc5 => ?_) (fun hc5 => ?_)
          · skip
            have hlt : ata out x < h.sp.lim x := by simpa using hc5
            have hcn := hφ1.no hgx hlt
            refine awp_seq ?_
            refine rg ?_
            refine qv m_mv ?_
            refine qv m_as ?_
            refine qv m_as ?_
            refine qv m_as ?_
            show AWp cx _ _ _
            refine awp_ret ?_
            exact x3 (hr := (rN_ (by rw [hlo0, hcn]))) (hr' := (rI_ (by rw [hlo0, hcn]))) (hr'' := (rI_ (by rw [hlo0, hcn])))
          · skip
            have hlo : ¬ ata out x < h.sp.lim x := by simpa using hc5
            refine awp_skip ?_
            show AWp cx _ _ _
            refine rd mixed ?_
            refine zv (m_ldpa sz25 ag25) ?_
            refine zv m_mv ?_
            refine zv m_mv ?_
            refine zv m_mv ?_
            first | refine zv (m_ixN el23 sz3) ?_ | refine zv (m_ix el23 sz3) ?_
            refine zv (m_ld sz3 ag3) ?_
            refine zqF (R := [11]) (f83 h v out x 1 hol hxk (fun j hj => by have := hcb.1 j hj; omega) (by omega)) ?_ (ha := (args_cons data_dv (args_cons (data_ints (L := out) (by first | (simp [rst, mkM]; done) | (simp [rst, mkM] <;> rfl)) trivial hol rfl rfl (fun _ => trivial)) (args_cons data_dv (args_cons data_dv args_nil)))))
            refine zv m_as ?_
            refine ⟨by rfl, ?_⟩
            show AWp cx _ _ _
            refine rg ?_
            refine qv m_mv ?_
            refine qv m_add ?_
            refine qv m_as ?_
            exact ⟨(topL h out x 1, q + 1), (hφ1.next v hgx hxk hlo), (by simp only; omega), (tl [(3, 3), (11, 68)] (hF := by simp [FLe, svLe, lk, mkM, isLive, tauL, topL_len]) (hM := by simp [MLe, blkLe, svLe, svLes, lk, mkM, isLive, tauL, svLes_ints, svLes_self, isDvs, isDvs_map, isDvs_app, isDvs_take, isDvs_set, isDvs_repl, topL_len]))⟩
        · try simp at hc4
          obtain rfl : q = l.length := by omega
          have hdn := hφ1.done
          refine awp_exit ?_
          show AWp cx _ _ _
          refine awp_seq ?_
          refine rg ?_
          refine qv m_mv ?_
          refine qv m_mv ?_
          refine qv (m_len il23) ?_
          refine qv m_as ?_
          refine qv m_as ?_
          refine qv m_as ?_
          show AWp cx _ _ _
          refine awp_ret ?_
          exact x3 (hr := (rR_ (by rw [hlo0, hdn]))) (hr' := (rI_ (by rw [hlo0, hdn]))) (hr'' := (rI_ (by rw [hlo0, hdn])))

set_option maxHeartbeats 4000000 in
theorem f49 (h : Hp) (a b s : List Int) (hsl : s.length < 1000000) : ACallsF Try.prog 49 [dHp h, ints a, ints b, ints s] (.one (.dv (i64 (csR h a b s)))) := by
  refine callsF_of Try.func49 rfl rfl (by rw [Try.ntmps49]; simp) fun cx hP hn hg => ?_
  rw [Try.ntmps49] at hn
  rw [startF_lk, none_mkM]
  simp only [List.nil_append, List.append_nil, List.cons_append, zipSV, Nat.reduceAdd]
  refine awp_seq ?_
  refine rg ?_
  refine qp m_box ?_
  refine qv m_as ?_
  show AWp cx _ _ _
  refine awp_seq ?_
  refine awp_seq ?_
  refine rg ?_
  refine qv (m_ldpa sz25 ag25) ?_
  refine qv m_mv ?_
  refine qv m_mv ?_
  refine qr (m_bsl el22 ze23 sz23) ?_
  refine qqF (f61 h [a, b] (by simp)) ?_ (ha := (args_cons data_dv (args_cons (data_rows (L := [a, b]) (by simp only [mkM, reduceIte, Nat.reduceEqDiff] <;> rfl) trivial rfl (fun _ => trivial)) args_nil)))
  refine qv m_as ?_
  show AWp cx _ _ _
  refine awp_seq ?_
  refine rg ?_
  refine qv m_mv ?_
  refine qv m_neq ?_
  show AWp cx _ _ _
  refine cd (fun hc0 => ?_) (fun hc0 => ?_)
  · skip
    have he0 : checkE h [a, b] ≠ 0 := by simpa using hc0
    refine awp_seq ?_
    refine rg ?_
    refine qv m_mv ?_
    refine qv m_as ?_
    show AWp cx _ _ _
    refine awp_ret ?_
    exact x1 (hr := (rD_ (by first | rw [cs_bad he0] | rw [har] | rw [hcn] | rw [hcy] | rw [cs_arg he0 (.inl (by simpa using hg26))] | rw [cs_arg he0 (.inl (by intro hh; rw [hh] at hg26; simp at hg26))])))
  · skip
    have he0 : checkE h [a, b] = 0 := by simpa using hc0
    obtain ⟨v, h30, h30b⟩ := check2 he0
    have h5 := v.n5
    have hal := h30.len
    have hbl := h30b.len
    refine awp_skip ?_
    show AWp cx _ _ _
    refine awp_seq ?_
    refine awp_seq ?_
    refine rg ?_
    refine qv m_mv ?_
    refine qv (m_len il23) ?_
    refine qv m_mv ?_
    refine qv (m_len il23) ?_
    refine qv m_neq ?_
    refine qx m_mv (fun hg26 => ?_) (fun hg26 => ?_)
    · skip
      refine qk ?_
      refine qk ?_
      refine qv m_pk ?_
      show AWp cx _ _ _
      refine cdT (hb := by first | rfl | simp | simp_all) (ht := ?_)
      refine awp_seq ?_
      refine rg ?_
      refine qv m_as ?_
      show AWp cx _ _ _
      refine awp_ret ?_
      exact x1 (hr := (rD_ (by first | rw [cs_bad he0] | rw [har] | rw [hcn] | rw [hcy] | rw [cs_arg he0 (.inl (by simpa using hg26))] | rw [cs_arg he0 (.inl (by intro hh; rw [hh] at hg26; simp at hg26))])))
    · skip
      refine qv m_mv ?_
      refine qqF (f87 s 88 (fun n => !inR n (-1000) 1000) (fun x _ => f88 x) hsl) ?_
      refine qv m_pk ?_
      show AWp cx _ _ _
      refine cd (fun hc1 => ?_) (fun hc1 => ?_)
      · skip
        have har := cs_arg (h := h) (a := a) (b := b) (s := s) he0 (.inr hc1)
        refine awp_seq ?_
        refine rg ?_
        refine qv m_as ?_
        show AWp cx _ _ _
        refine awp_ret ?_
        exact x1 (hr := (rD_ (by first | rw [cs_bad he0] | rw [har] | rw [hcn] | rw [hcy] | rw [cs_arg he0 (.inl (by simpa using hg26))] | rw [cs_arg he0 (.inl (by intro hh; rw [hh] at hg26; simp at hg26))])))
      · skip
        have hsn : s.any (fun n => !inR n (-1000) 1000) = false := hc1
        have hsa : s.length = a.length := by simp at hg26; omega
        have hin := cs_in hsn
        rw [hsa, hal] at hin
        refine awp_skip ?_
        show AWp cx _ _ _
        refine awp_seq ?_
        refine rg ?_
        refine qv m_mv ?_
        refine qqF (f80 a (by omega)) ?_
        refine qv m_as ?_
        show AWp cx _ _ _
        refine awp_seq ?_
        refine awp_seq ?_
        refine rg ?_
        refine qv m_mv ?_
        refine qv (m_len il23) ?_
        refine qv m_mv ?_
        show AWp cx _ _ _
        refine awp_block ?_
        refine awp_loop (ι := Nat) (fun q => ⟨lk [(2, .dv (ints (b))), (4, .pt 4 0 0), (10, .sl 10 0 0 h.ground.length), (32, .dv (ints (s))), (33, .dv (i64 ((s.length : Int)))), (34, .dv (i64 (q : Nat)))], mkM [(4, 0, some ⟨[.dv (.list ((h.links).map ints)), .dv (ints (h.ground))], 0, 25, 0, false⟩), (10, 0, some (rowI (spF h a s q)))]⟩) (fun q => q ≤ h.ground.length) (fun q => h.ground.length - q) 0 (by simp) (tl [(4, 4), (10, 31)] (hF := by simp [FLe, svLe, lk, mkM, isLive, tauL, spF, hal]) (hM := by simp [MLe, blkLe, svLe, svLes, lk, mkM, isLive, tauL, svLes_ints, svLes_self, isDvs, isDvs_map, isDvs_app, isDvs_take, isDvs_set, isDvs_repl, spF, hal])) ?_
        intro q hφ0
        have hol := spF_len (s := s) hal q
        have hob := spF_bd v h30 hin q hφ0
        refine awp_seq ?_
        refine rg ?_
        refine qv m_lss ?_
        show AWp cx _ _ _
        refine awp_seq ?_
        refine cd (fun hc2 => ?_) (fun hc2 => ?_)
        · try simp at hc2
          refine awp_skip ?_
          show AWp cx _ _ _
          refine awp_seq ?_
          refine awp_block ?_
          refine awp_seq ?_
          have hq : q < h.ground.length := by omega
          have hgq := ata_get (a := s) (i := q) (by omega)
          have hbq := hin q hq
          refine rg ?_
          refine qv m_mv ?_
          first | refine qv (m_ixN el23 sz3) ?_ | refine qv (m_ix el23 sz3) ?_
          refine qv (m_ld sz3 ag3) ?_
          refine qv m_as ?_
          refine qv m_as ?_
          show AWp cx _ _ _
          refine rg ?_
          refine qv (m_ldpa sz25 ag25) ?_
          refine qv m_mv ?_
          refine qv m_mv ?_
          refine qv m_mv ?_
          refine qqG (f82 h v (spF h a s q) q (ata s q) hol hq (fun j hj => by have := hob j hj; omega) (by omega)) [] [(100000, 10)] [10] ?_
          show AWp cx _ _ _
          refine rg ?_
          refine qv m_add ?_
          refine qv m_mv ?_
          exact ⟨q + 1, hq, (by simp only; omega), (tl [(4, 4), (10, 10)] (hF := by simp [FLe, svLe, lk, mkM, isLive, tauL, spF, topL_len]) (hM := by simp [MLe, blkLe, svLe, svLes, lk, mkM, isLive, tauL, svLes_ints, svLes_self, isDvs, isDvs_map, isDvs_app, isDvs_take, isDvs_set, isDvs_repl, spF, topL_len]))⟩
        · try simp at hc2
          obtain rfl : q = h.ground.length := by omega
          refine awp_exit ?_
          show AWp cx _ _ _
          refine awp_seq ?_
          refine awp_seq ?_
          refine rg ?_
          refine qv m_mv ?_
          refine qv m_mv ?_
          refine qqF (f63 (spF h a s h.ground.length) b (by omega)) ?_ (ha := (args_cons (data_ints (L := spF h a s h.ground.length) (by simp only [mkM, reduceIte, Nat.reduceEqDiff] <;> rfl) trivial (by first | exact hol | rfl | omega | (simp; done) | (simp; omega)) rfl rfl (fun _ => trivial)) (args_cons data_dv args_nil)))
          refine qv m_not ?_
          show AWp cx _ _ _
          refine cd (fun hc3 => ?_) (fun hc3 => ?_)
          · skip
            have hcn := cs_no he0 hsa hsn (b := b) (by simpa using hc3)
            refine awp_seq ?_
            refine rg ?_
            refine qv m_as ?_
            show AWp cx _ _ _
            refine awp_ret ?_
            exact x1 (hr := (rD_ (by first | rw [cs_bad he0] | rw [har] | rw [hcn] | rw [hcy] | rw [cs_arg he0 (.inl (by simpa using hg26))] | rw [cs_arg he0 (.inl (by intro hh; rw [hh] at hg26; simp at hg26))])))
          · skip
            have hcy := cs_yes he0 hsa hsn (b := b) (by simpa using hc3)
            refine awp_skip ?_
            show AWp cx _ _ _
            refine awp_seq ?_
            refine rg ?_
            refine qv m_as ?_
            show AWp cx _ _ _
            refine awp_ret ?_
            exact x1 (hr := (rD_ (by first | rw [cs_bad he0] | rw [har] | rw [hcn] | rw [hcy] | rw [cs_arg he0 (.inl (by simpa using hg26))] | rw [cs_arg he0 (.inl (by intro hh; rw [hh] at hg26; simp at hg26))])))

set_option maxHeartbeats 4000000 in
theorem f50 (h : Hp) (a b s : List Int) (hsl : s.length < 1000000) : ACallsF Try.prog 50 [dHp h, ints a, ints b, ints s] (.one (.dv (i64 (csR h a b s)))) := by
  refine callsF_of Try.func50 rfl rfl (by rw [Try.ntmps50]; simp) fun cx hP hn hg => ?_
  rw [Try.ntmps50] at hn
  rw [startF_lk, none_mkM]
  simp only [List.nil_append, List.append_nil, List.cons_append, zipSV, Nat.reduceAdd]
  refine awp_seq ?_
  refine rg ?_
  refine qp m_box ?_
  refine qv m_as ?_
  show AWp cx _ _ _
  refine awp_seq ?_
  refine rg ?_
  refine qv (m_ldpa sz25 ag25) ?_
  refine qv m_mv ?_
  refine qv m_mv ?_
  refine qr (m_bsl el22 ze23 sz23) ?_
  refine qqF (f76 h [a, b] (by simp)) ?_ (ha := (args_cons data_dv (args_cons (data_rows (L := [a, b]) (by simp only [mkM, reduceIte, Nat.reduceEqDiff] <;> rfl) trivial rfl (fun _ => trivial)) args_nil)))
  refine qv m_as ?_
  show AWp cx _ _ _
  refine awp_seq ?_
  refine awp_seq ?_
  refine rg ?_
  refine qv m_mv ?_
  refine qv m_neq ?_
  show AWp cx _ _ _
  refine cd (fun hc0 => ?_) (fun hc0 => ?_)
  · skip
    have he0 : checkE h [a, b] ≠ 0 := by simpa using hc0
    refine awp_seq ?_
    refine rg ?_
    refine qv m_mv ?_
    refine qv m_as ?_
    show AWp cx _ _ _
    refine awp_ret ?_
    exact x1 (hr := (rD_ (by first | rw [cs_bad he0] | rw [har] | rw [hca] | rw [hcn] | rw [hcy])))
  · skip
    have he0 : checkE h [a, b] = 0 := by simpa using hc0
    obtain ⟨v, h30, h30b⟩ := check2 he0
    have h5 := v.n5
    have hal := h30.len
    have hbl := h30b.len
    refine awp_skip ?_
    show AWp cx _ _ _
    refine awp_seq ?_
    refine awp_seq ?_
    refine rg ?_
    refine qv m_mv ?_
    refine qv (m_len il23) ?_
    refine qv m_mv ?_
    refine qv (m_len il23) ?_
    refine qv m_neq ?_
    show AWp cx _ _ _
    refine cd (fun hc1 => ?_) (fun hc1 => ?_)
    · skip
      have har := cs_arg (h := h) (a := a) (b := b) (s := s) he0 (.inl (by intro hh; rw [hh] at hc1; simp at hc1))
      refine awp_seq ?_
      refine rg ?_
      refine qv m_as ?_
      show AWp cx _ _ _
      refine awp_ret ?_
      exact x1 (hr := (rD_ (by first | rw [cs_bad he0] | rw [har] | rw [hca] | rw [hcn] | rw [hcy])))
    · skip
      have hsa : s.length = a.length := by simp at hc1; omega
      refine awp_skip ?_
      show AWp cx _ _ _
      refine awp_seq ?_
      refine rg ?_
      refine qr (m_bsl el23 ze3 sz3) ?_
      refine qv m_mv ?_
      refine qa1 (m_app1 el23 el23 ze3 sz3 by3) ?_
      refine qv m_as ?_
      show AWp cx _ _ _
      refine awp_seq ?_
      refine awp_seq ?_
      refine rg ?_
      refine qv m_as ?_
      show AWp cx _ _ _
      refine awp_block ?_
      refine awp_loop (ι := Nat) (fun q => ⟨lk [(2, .dv (ints (b))), (3, .dv (ints (s))), (4, .pt 4 0 0), (10, .sl 10 0 0 h.ground.length), (11, .dv (i64 (q : Nat)))], mkM [(4, 0, some ⟨[.dv (.list ((h.links).map ints)), .dv (ints (h.ground))], 0, 25, 0, false⟩), (10, 0, some (rowI (spF h a s q)))]⟩) (fun q => q ≤ h.ground.length ∧ ∀ j, j < q → inR (ata s j) (-1000) 1000 = true) (fun q => h.ground.length - q) 0 (by simp) (tl [(4, 4), (10, 27)] (hF := by simp [FLe, svLe, lk, mkM, isLive, tauL, spF, hal]) (hM := by simp [MLe, blkLe, svLe, svLes, lk, mkM, isLive, tauL, svLes_ints, svLes_self, isDvs, isDvs_map, isDvs_app, isDvs_take, isDvs_set, isDvs_repl, spF, hal])) ?_
      intro q hφ0
      have hol := spF_len (s := s) hal q
      refine awp_seq ?_
      refine awp_seq ?_
      refine rg ?_
      refine qv m_mv ?_
      refine qv m_mv ?_
      refine qv (m_len il23) ?_
      refine qv m_lss ?_
      show AWp cx _ _ _
      refine cd (fun hc2 => ?_) (fun hc2 => ?_)
      · try simp at hc2
        have hq : q < h.ground.length := by omega
        have hgq := ata_get (a := s) (i := q) (by omega)
        refine awp_skip ?_
        show AWp cx _ _ _
        refine awp_seq ?_
        refine awp_block ?_
        refine awp_seq ?_
        refine awp_seq ?_
        refine rg ?_
        refine qv m_mv ?_
        refine qv m_mv ?_
        first | refine qv (m_ixN el23 sz3) ?_ | refine qv (m_ix el23 sz3) ?_
        refine qv (m_ld sz3 ag3) ?_
        refine qqF (f78 (ata s q) (-1000) 1000) ?_
        refine qv m_not ?_
        show AWp cx _ _ _
        refine cd (fun hc3 => ?_) (fun hc3 => ?_)
        · skip
          have hca := cs_arg (h := h) (a := a) (b := b) he0 (.inr (cs_any hgq (by simpa using hc3)))
          refine awp_seq ?_
          refine rg ?_
          refine qv m_as ?_
          show AWp cx _ _ _
          refine awp_ret ?_
          exact x1 (hr := (rD_ (by first | rw [cs_bad he0] | rw [har] | rw [hca] | rw [hcn] | rw [hcy])))
        · skip
          have hbq : inR (ata s q) (-1000) 1000 = true := by simpa using hc3
          have hbq2 : -1000 ≤ ata s q ∧ ata s q ≤ 1000 := by simpa [inR] using hbq
          have hob := spF_bdq v h30 (fun i hi => by rcases Nat.lt_or_ge i q with h1 | h1
                                                    · simpa [inR] using hφ0.2 i h1
                                                    · obtain rfl : i = q := by omega
                                                      exact hbq2) (show q ≤ h.ground.length by omega)
          refine awp_skip ?_
          show AWp cx _ _ _
          refine rd mixed ?_
          refine zv (m_ldpa sz25 ag25) ?_
          refine zv m_mv ?_
          refine zv m_mv ?_
          refine zv m_mv ?_
          refine zv m_mv ?_
          first | refine zv (m_ixN el23 sz3) ?_ | refine zv (m_ix el23 sz3) ?_
          refine zv (m_ld sz3 ag3) ?_
          refine zqF (R := [10]) (f83 h v (spF h a s q) q (ata s q) hol hq (fun j hj => by have := hob j hj; omega) (by omega)) ?_ (ha := (args_cons data_dv (args_cons (data_ints (L := spF h a s q) (by first | (simp [rst, mkM]; done) | (simp [rst, mkM] <;> rfl)) trivial hol rfl rfl (fun _ => trivial)) (args_cons data_dv (args_cons data_dv args_nil)))))
          refine zv m_as ?_
          refine ⟨by rfl, ?_⟩
          show AWp cx _ _ _
          refine rg ?_
          refine qv m_mv ?_
          refine qv m_add ?_
          refine qv m_as ?_
          refine ⟨q + 1, ?_, (by simp only; omega), (tl [(4, 4), (10, 47)] (hF := by simp [FLe, svLe, lk, mkM, isLive, tauL, spF, topL_len]) (hM := by simp [MLe, blkLe, svLe, svLes, lk, mkM, isLive, tauL, svLes_ints, svLes_self, isDvs, isDvs_map, isDvs_app, isDvs_take, isDvs_set, isDvs_repl, spF, topL_len]))⟩
          refine ⟨by omega, fun j hj => ?_⟩
          rcases Nat.lt_or_ge j q with h1 | h1
          · exact hφ0.2 j h1
          · obtain rfl : j = q := by omega
            simpa using hc3
      · try simp at hc2
        obtain rfl : q = h.ground.length := by omega
        have hsn := cs_of (s := s) (fun i hi => hφ0.2 i (by omega))
        refine awp_exit ?_
        show AWp cx _ _ _
        refine awp_seq ?_
        refine awp_seq ?_
        refine rg ?_
        refine qv m_mv ?_
        refine qv m_mv ?_
        refine qqF (f27 (spF h a s h.ground.length) b (by omega)) ?_ (ha := (args_cons (data_ints (L := spF h a s h.ground.length) (by simp only [mkM, reduceIte, Nat.reduceEqDiff] <;> rfl) trivial (by first | exact hol | rfl | omega | (simp; done) | (simp; omega)) rfl rfl (fun _ => trivial)) (args_cons data_dv args_nil)))
        refine qv m_not ?_
        show AWp cx _ _ _
        refine cd (fun hc4 => ?_) (fun hc4 => ?_)
        · skip
          have hcn := cs_no he0 hsa hsn (b := b) (by simpa using hc4)
          refine awp_seq ?_
          refine rg ?_
          refine qv m_as ?_
          show AWp cx _ _ _
          refine awp_ret ?_
          exact x1 (hr := (rD_ (by first | rw [cs_bad he0] | rw [har] | rw [hca] | rw [hcn] | rw [hcy])))
        · skip
          have hcy := cs_yes he0 hsa hsn (b := b) (by simpa using hc4)
          refine awp_skip ?_
          show AWp cx _ _ _
          refine awp_seq ?_
          refine rg ?_
          refine qv m_as ?_
          show AWp cx _ _ _
          refine awp_ret ?_
          exact x1 (hr := (rD_ (by first | rw [cs_bad he0] | rw [har] | rw [hca] | rw [hcn] | rw [hcy])))

end Go.Ab.Try
