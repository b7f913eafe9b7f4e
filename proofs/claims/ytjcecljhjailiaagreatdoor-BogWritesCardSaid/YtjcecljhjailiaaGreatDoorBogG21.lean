/- BogH1, BogH2. -/
import Derived.Test.YtjcecljhjailiaaGreatDoorBogG20
import Derived.Test.YtjcecljhjailiaaGreatDoorBogG09
import Derived.Test.YtjcecljhjailiaaGreatDoorBogG13
set_option linter.all false
namespace Go.Ab.Tryz.H
open Go Go.Ab Go.Ab.Tryz Go.Proofs Go.Ab.Heap
abbrev PrOk (f : FuncId) (p : Int → Bool) (l : List Int) : Prop := ∀ x ∈ l, ACallsF Tryz.prog f ([] ++ [i64 x] ++ []) (.one (.dv (.bool (p x))))
def idxF (p : Int → Bool) (l : List Int) : Int := if l.any p then (l.findIdx p : Int) else -1
theorem idx_hit {p : Int → Bool} {l : List Int} {i : Nat} (hi : i < l.length) (hp : p l[i] = true) (hj : ∀ j (h : j < l.length), j < i → p l[j] = false) : idxF p l = i := by
  unfold idxF
  rw [if_pos (List.any_eq_true.2 ⟨_, List.getElem_mem hi, hp⟩)]
  congr 1
  exact (List.findIdx_eq hi).2 ⟨hp, fun j h => by simpa using hj j (by omega) h⟩
theorem idx_miss {p : Int → Bool} {l : List Int} (hj : ∀ j (h : j < l.length), p l[j] = false) : idxF p l = -1 := by
  unfold idxF
  rw [if_neg]
  intro h
  obtain ⟨x, hx, hpx⟩ := List.any_eq_true.1 h
  obtain ⟨j, h2, rfl⟩ := List.getElem_of_mem hx
  rw [hj j h2] at hpx; cases hpx
theorem idx_any {p : Int → Bool} {l : List Int} : decide (0 ≤ idxF p l) = l.any p := by
  unfold idxF
  split
  · rename_i h; rw [h]; simp
  · rename_i h; simp at h ⊢; exact h
theorem f133 (n lo hi : Int) : ACallsF Tryz.prog 133 [i64 n, i64 lo, i64 hi] (.one (.dv (.bool (inR n lo hi)))) := by
  refine callsF_of Tryz.func133 rfl rfl (by rw [Tryz.ntmps133]; simp) fun cx hP hn hg => ?_
  rw [Tryz.ntmps133] at hn
  rw [startF_lk, none_mkM]
  simp only [List.nil_append, List.append_nil, List.cons_append, zipSV, Nat.reduceAdd]
  refine awp_seq ?_
  refine rg ?_
  refine qv m_as ?_
  show AWp cx _ _ _
  refine awp_seq ?_
  refine rg ?_
  refine qv m_mv ?_
  refine qv m_mv ?_
  refine qv m_geq ?_
  refine qx m_mv (fun hg10 => ?_) (fun hg10 => ?_)
  · try simp at hg10
    refine qv m_mv ?_
    refine qv m_mv ?_
    refine qv m_leq ?_
    refine qv m_pk ?_
    refine qv m_as ?_
    show AWp cx _ _ _
    refine awp_ret ?_
    exact x1 (hr := (rB_ (by first | (simp_all [inR]; done) | (simp_all [inR]; omega))))
  · try simp at hg10
    refine qk ?_
    refine qk ?_
    refine qk ?_
    refine qv m_pk ?_
    refine qv m_as ?_
    show AWp cx _ _ _
    refine awp_ret ?_
    exact x1 (hr := (rB_ (by first | (simp_all [inR]; done) | (simp_all [inR]; omega))))
theorem f165 (x : Int) : ACallsF Tryz.prog 165 [i64 x] (.one (.dv (.bool (!inR x 0 30)))) := by
  refine callsF_of Tryz.func165 rfl rfl (by rw [Tryz.ntmps165]; simp) fun cx hP hn hg => ?_
  rw [Tryz.ntmps165] at hn
  rw [startF_lk, none_mkM]
  simp only [List.nil_append, List.append_nil, List.cons_append, zipSV, Nat.reduceAdd]
  refine awp_seq ?_
  refine rg ?_
  refine qv m_as ?_
  show AWp cx _ _ _
  refine awp_seq ?_
  refine rg ?_
  refine qv m_mv ?_
  refine qqF (f133 x 0 30) ?_
  refine qv m_not ?_
  refine qv m_as ?_
  show AWp cx _ _ _
  refine awp_ret ?_
  exact x1 (hr := (rB_))
theorem f155 (l : List Int) (f : FuncId) (p : Int → Bool) (hp : PrOk f p l) (hl : l.length < 1000000) : ACallsF Tryz.prog 155 [ints l, .fn f [] []] (.one (.dv (i64 (idxF p l)))) := by
  refine callsF_of Tryz.func155 rfl rfl (by rw [Tryz.ntmps155]; simp) fun cx hP hn hg => ?_
  rw [Tryz.ntmps155] at hn
  rw [startF_lk, none_mkM]
  simp only [List.nil_append, List.append_nil, List.cons_append, zipSV, Nat.reduceAdd]
  refine awp_seq ?_
  refine rg ?_
  refine qv m_as ?_
  show AWp cx _ _ _
  refine awp_seq ?_
  refine awp_seq ?_
  refine rg ?_
  refine qv m_mv ?_
  refine qv (m_len il25) ?_
  refine qv m_mv ?_
  show AWp cx _ _ _
  refine awp_block ?_
  refine awp_loop (ι := Nat) (fun i => ⟨lk [(0, .dv (ints (l))), (1, .dv (.fn f [] [])), (7, .dv (i64 ((l.length : Int)))), (8, .dv (i64 (i : Nat)))], mkM []⟩) (fun i => i ≤ l.length ∧ ∀ j (h : j < l.length), j < i → p l[j] = false) (fun i => l.length - i) 0 (by simp) (tl []) ?_
  intro i hφ0
  refine awp_seq ?_
  refine rg ?_
  refine qv m_lss ?_
  show AWp cx _ _ _
  refine awp_seq ?_
  refine cd (fun hc0 => ?_) (fun hc0 => ?_)
  · try simp at hc0
    refine awp_skip ?_
    show AWp cx _ _ _
    refine awp_seq ?_
    refine awp_block ?_
    refine awp_seq ?_
    refine rg ?_
    refine qv m_mv ?_
    refine qv m_as ?_
    show AWp cx _ _ _
    refine awp_seq ?_
    refine rg ?_
    refine qv m_mv ?_
    refine qv m_mv ?_
    refine qv m_mv ?_
    have hin : i < l.length := by omega
    first | refine qv (m_ixN el25 sz3) ?_ | refine qv (m_ix el25 sz3) ?_
    refine qv (m_ld sz3 ag3) ?_
    refine qqVF (hp l[i] (List.getElem_mem hin)) ?_
    show AWp cx _ _ _
    refine cd (fun hc1 => ?_) (fun hc1 => ?_)
    · try simp at hc1
      refine awp_seq ?_
      refine rg ?_
      refine qv m_mv ?_
      refine qv m_as ?_
      show AWp cx _ _ _
      refine awp_ret ?_
      exact x1 (hr := (rI_ (by rw [idx_hit hin (by simpa using hc1) hφ0.2])))
    · try simp at hc1
      refine awp_skip ?_
      show AWp cx _ _ _
      refine rg ?_
      refine qv m_add ?_
      refine qv m_mv ?_
      refine ⟨i + 1, ?_, (by simp only; omega), (tl [])⟩
      refine ⟨hin, fun j h hj => ?_⟩
      rcases Nat.lt_or_ge j i with h1 | h1
      · exact hφ0.2 j h h1
      · obtain rfl : j = i := by omega
        simpa using hc1
  · try simp at hc0
    refine awp_exit ?_
    show AWp cx _ _ _
    refine awp_seq ?_
    refine rg ?_
    refine qv m_as ?_
    show AWp cx _ _ _
    refine awp_ret ?_
    exact x1 (hr := (rI_ (by rw [idx_miss fun j h => hφ0.2 j h (by omega)])))
theorem f106 (l : List Int) (f : FuncId) (p : Int → Bool) (hp : PrOk f p l) (hl : l.length < 1000000) : ACallsF Tryz.prog 106 [ints l, .fn f [] []] (.one (.dv (.bool (l.any p)))) := by
  refine callsF_of Tryz.func106 rfl rfl (by rw [Tryz.ntmps106]; simp) fun cx hP hn hg => ?_
  rw [Tryz.ntmps106] at hn
  rw [startF_lk, none_mkM]
  simp only [List.nil_append, List.append_nil, List.cons_append, zipSV, Nat.reduceAdd]
  refine awp_seq ?_
  refine rg ?_
  refine qv m_as ?_
  show AWp cx _ _ _
  refine awp_seq ?_
  refine rg ?_
  refine qv m_mv ?_
  refine qv m_mv ?_
  refine qqF (f155 l f p hp hl) ?_
  refine qv m_geq ?_
  refine qv m_as ?_
  show AWp cx _ _ _
  refine awp_ret ?_
  exact x1 (hr := (rB_ idx_any))
theorem f167 (l : List Bool) (hl : l.length < 1000000) : ACallsF Tryz.prog 167 [.list (l.map DV.bool), .bool false] (.one (.dv (i64 (if l.contains false then (l.findIdx (fun b => b == false) : Int) else -1)))) := by
  have hpos : ∀ i, (h : i < l.length) → l[i] = false → (∀ j (h : j < l.length), j < i → l[j] = true) → (if l.contains false then (l.findIdx (fun b => b == false) : Int) else -1) = i := by
    intro i hi hp hj
    rw [if_pos (List.contains_iff_mem.2 (hp ▸ List.getElem_mem hi))]
    congr 1
    exact (List.findIdx_eq hi).2 ⟨by simp [hp], fun j h => by simp [hj j (by omega) h]⟩
  have hneg : (∀ j (h : j < l.length), l[j] = true) → (if l.contains false then (l.findIdx (fun b => b == false) : Int) else -1) = -1 := by
    intro hj
    rw [if_neg]
    intro h
    obtain ⟨j, h2, h3⟩ := List.getElem_of_mem (List.contains_iff_mem.1 h)
    rw [hj j h2] at h3; cases h3
  refine callsF_of Tryz.func167 rfl rfl (by rw [Tryz.ntmps167]; simp) fun cx hP hn hg => ?_
  rw [Tryz.ntmps167] at hn
  rw [startF_lk, none_mkM]
  simp only [List.nil_append, List.append_nil, List.cons_append, zipSV, Nat.reduceAdd]
  refine awp_seq ?_
  refine rg ?_
  refine qv m_as ?_
  show AWp cx _ _ _
  refine awp_seq ?_
  refine awp_seq ?_
  refine rg ?_
  refine qv m_mv ?_
  refine qv (m_len il160) ?_
  refine qv m_mv ?_
  show AWp cx _ _ _
  refine awp_block ?_
  refine awp_loop (ι := Nat) (fun i => ⟨lk [(0, .dv (.list ((l).map DV.bool))), (1, .dv (.bool (false))), (7, .dv (i64 ((l.length : Int)))), (8, .dv (i64 (i : Nat)))], mkM []⟩) (fun i => i ≤ l.length ∧ ∀ j (h : j < l.length), j < i → l[j] = true) (fun i => l.length - i) 0 (by simp) (tl []) ?_
  intro i hφ0
  refine awp_seq ?_
  refine rg ?_
  refine qv m_lss ?_
  show AWp cx _ _ _
  refine awp_seq ?_
  refine cd (fun hc0 => ?_) (fun hc0 => ?_)
  · try simp at hc0
    refine awp_skip ?_
    show AWp cx _ _ _
    refine awp_seq ?_
    refine awp_block ?_
    refine awp_seq ?_
    refine rg ?_
    refine qv m_mv ?_
    refine qv m_as ?_
    show AWp cx _ _ _
    refine awp_seq ?_
    refine rg ?_
    refine qv m_mv ?_
    refine qv m_mv ?_
    refine qv m_mv ?_
    have hin : i < l.length := by omega
    first | refine qv (m_ixN el160 sz4) ?_ | refine qv (m_ix el160 sz4) ?_
    refine qv (m_ld sz4 ag4) ?_
    refine qv (m_beq ib4) ?_
    show AWp cx _ _ _
    refine cd (fun hc1 => ?_) (fun hc1 => ?_)
    · try simp at hc1
      refine awp_seq ?_
      refine rg ?_
      refine qv m_mv ?_
      refine qv m_as ?_
      show AWp cx _ _ _
      refine awp_ret ?_
      exact x1 (hr := (rI_ (by rw [hpos i hin (by simpa using hc1) hφ0.2])))
    · try simp at hc1
      refine awp_skip ?_
      show AWp cx _ _ _
      refine rg ?_
      refine qv m_add ?_
      refine qv m_mv ?_
      refine ⟨i + 1, ?_, (by simp only; omega), (tl [])⟩
      refine ⟨hin, fun j h hj => ?_⟩
      rcases Nat.lt_or_ge j i with h1 | h1
      · exact hφ0.2 j h h1
      · obtain rfl : j = i := by omega
        simpa using hc1
  · try simp at hc0
    refine awp_exit ?_
    show AWp cx _ _ _
    refine awp_seq ?_
    refine rg ?_
    refine qv m_as ?_
    show AWp cx _ _ _
    refine awp_ret ?_
    exact x1 (hr := (rI_ (by rw [hneg fun j h => hφ0.2 j h (by omega)])))
theorem f134 (l : List Bool) (hl : l.length < 1000000) : ACallsF Tryz.prog 134 [.list (l.map DV.bool), .bool false] (.one (.dv (.bool (l.contains false)))) := by
  have hd : decide (0 ≤ (if l.contains false then (l.findIdx (fun b => b == false) : Int) else -1)) = l.contains false := by
    split
    · rename_i h; rw [h]; simp
    · rename_i h; simp at h ⊢; exact h
  refine callsF_of Tryz.func134 rfl rfl (by rw [Tryz.ntmps134]; simp) fun cx hP hn hg => ?_
  rw [Tryz.ntmps134] at hn
  rw [startF_lk, none_mkM]
  simp only [List.nil_append, List.append_nil, List.cons_append, zipSV, Nat.reduceAdd]
  refine awp_seq ?_
  refine rg ?_
  refine qv m_as ?_
  show AWp cx _ _ _
  refine awp_seq ?_
  refine rg ?_
  refine qv m_mv ?_
  refine qv m_mv ?_
  refine qqF (f167 l hl) ?_
  refine qv m_geq ?_
  refine qv m_as ?_
  show AWp cx _ _ _
  refine awp_ret ?_
  exact x1 (hr := (rB_ hd))
theorem f214 (l : List Int) (hl : l.length < 1000000) : ACallsF Tryz.prog 214 [ints l] (.one (rI l)) := by
  refine callsF_of Tryz.func214 rfl rfl (by rw [Tryz.ntmps214]; simp) fun cx hP hn hg => ?_
  rw [Tryz.ntmps214] at hn
  rw [startF_lk, none_mkM]
  simp only [List.nil_append, List.append_nil, List.cons_append, zipSV, Nat.reduceAdd]
  refine awp_seq ?_
  refine rg ?_
  refine qv m_as ?_
  show AWp cx _ _ _
  refine awp_seq ?_
  refine rg ?_
  refine qv m_mv ?_
  refine qv (m_len il25) ?_
  refine qr (m_mkI el25 ze3 sz3 by3) ?_
  refine qv m_as ?_
  show AWp cx _ _ _
  refine awp_seq ?_
  refine rg ?_
  refine qv m_mv ?_
  refine qv m_mv ?_
  first | refine qcp el25 el25 sz3 ?_
  show AWp cx _ _ _
  refine awp_seq ?_
  refine rg ?_
  refine qv m_mv ?_
  refine qv m_as ?_
  show AWp cx _ _ _
  refine awp_ret ?_
  exact x1 (hr := (rR_))
theorem f216 (l : List Int) (hl : l.length < 1000) (hb : ∀ i, i < l.length → -100000000 ≤ ata l i ∧ ata l i ≤ 100000000) : ACallsF Tryz.prog 216 [ints l] (.one (.dv (i64 (sm (ata l) l.length)))) := by
  refine callsF_of Tryz.func216 rfl rfl (by rw [Tryz.ntmps216]; simp) fun cx hP hn hg => ?_
  rw [Tryz.ntmps216] at hn
  rw [startF_lk, none_mkM]
  simp only [List.nil_append, List.append_nil, List.cons_append, zipSV, Nat.reduceAdd]
  refine awp_seq ?_
  refine rg ?_
  refine qv m_as ?_
  show AWp cx _ _ _
  refine awp_seq ?_
  refine rg ?_
  refine qv m_as ?_
  show AWp cx _ _ _
  refine awp_seq ?_
  refine awp_seq ?_
  refine rg ?_
  refine qv m_mv ?_
  refine qv (m_len il25) ?_
  refine qv m_mv ?_
  show AWp cx _ _ _
  refine awp_block ?_
  refine awp_loop (ι := Nat) (fun i => ⟨lk [(3, .dv (i64 (sm (ata l) i))), (6, .dv (ints (l))), (7, .dv (i64 ((l.length : Int)))), (8, .dv (i64 (i : Nat)))], mkM []⟩) (fun i => i ≤ l.length ∧ -(i * 100000000 : Int) ≤ sm (ata l) i ∧ sm (ata l) i ≤ i * 100000000) (fun i => l.length - i) 0 (by simp [sm]) (tl [] (hF := by simp [FLe, svLe, lk, mkM, isLive, tauL, sm]) (hM := by simp [MLe, blkLe, svLe, svLes, lk, mkM, isLive, tauL, svLes_ints, svLes_self, isDvs, isDvs_map, isDvs_app, isDvs_take, isDvs_set, isDvs_repl, sm])) ?_
  intro i hφ0
  refine awp_seq ?_
  refine rg ?_
  refine qv m_lss ?_
  show AWp cx _ _ _
  refine awp_seq ?_
  refine cd (fun hc0 => ?_) (fun hc0 => ?_)
  · try simp at hc0
    refine awp_skip ?_
    show AWp cx _ _ _
    refine awp_seq ?_
    refine awp_block ?_
    refine awp_seq ?_
    refine rg ?_
    have hin : i < l.length := by omega
    have hgi := ata_get hin
    have hbi := hb i hin
    first | refine qv (m_ixN el25 sz3) ?_ | refine qv (m_ix el25 sz3) ?_
    refine qv (m_ld sz3 ag3) ?_
    refine qv m_as ?_
    show AWp cx _ _ _
    refine rg ?_
    refine qv m_mv ?_
    refine qv m_mv ?_
    refine qv m_add ?_
    refine qv m_as ?_
    show AWp cx _ _ _
    refine rg ?_
    refine qv m_add ?_
    refine qv m_mv ?_
    exact ⟨i + 1, ⟨hin, by simp only [sm]; omega, by simp only [sm]; omega⟩, (by simp only; omega), (tl [] (hF := by simp [FLe, svLe, lk, mkM, isLive, tauL, sm]) (hM := by simp [MLe, blkLe, svLe, svLes, lk, mkM, isLive, tauL, svLes_ints, svLes_self, isDvs, isDvs_map, isDvs_app, isDvs_take, isDvs_set, isDvs_repl, sm]))⟩
  · try simp at hc0
    refine awp_exit ?_
    show AWp cx _ _ _
    refine awp_seq ?_
    refine rg ?_
    refine qv m_mv ?_
    refine qv m_as ?_
    show AWp cx _ _ _
    refine awp_ret ?_
    obtain rfl : i = l.length := by omega
    exact x1 (hr := rI_)
end Go.Ab.Tryz.H
set_option linter.all false
namespace Go.Ab.Tryz.H
open Go Go.Ab Go.Ab.Tryz Go.Proofs Go.Ab.Heap
theorem val_n {h : Hp} (hh : ¬ (1 ≤ h.ground.length ∧ h.ground.length ≤ 5 ∧ h.links.length = h.ground.length)) : okArg h = false := by
  cases e : okArg h with
  | false => rfl
  | true => exact absurd (okArg_iff.1 e).1 hh
theorem val_row {h : Hp} {i : Nat} (hi : i < h.ground.length) (hr : (lrow h i).length ≠ h.ground.length) : okArg h = false := by
  cases e : okArg h with
  | false => rfl
  | true => exact absurd ((okArg_iff.1 e).2.1 i hi) hr
theorem val_gnd {h : Hp} {i : Nat} (hi : i < h.ground.length) (hr : gndOk h i = false) : okArg h = false := by
  cases e : okArg h with
  | false => rfl
  | true =>
    have := (okArg_iff.1 e).2.2 i hi
    have h2 : gndOk h i = true := by simp only [gndOk, inR, Bool.and_eq_true, decide_eq_true_eq, beq_iff_eq]; exact ⟨this.1, this.2.1⟩
    rw [h2] at hr; cases hr
theorem val_num {h : Hp} {i k : Nat} (hi : i < h.ground.length) (hk : k < h.ground.length) (hr : numOk h i k = false) : okArg h = false := by
  cases e : okArg h with
  | false => rfl
  | true =>
    have := ((okArg_iff.1 e).2.2 i hi).2.2 k hk
    have h2 : numOk h i k = true := by simp only [numOk, inR, Bool.and_eq_true, decide_eq_true_eq, beq_iff_eq]; exact this
    rw [h2] at hr; cases hr
theorem val_bad {h : Hp} (e : okArg h = false) : validate h = 1 := by simp [validate, e]
theorem val_good {h : Hp} (e : okArg h = true) : validate h = if (rnd h h.ground.length).contains false then 9 else 0 := by simp [validate, e]
theorem okArg_mk {h : Hp} (h1 : 1 ≤ h.ground.length ∧ h.ground.length ≤ 5 ∧ h.links.length = h.ground.length) (h2 : ∀ i, i < h.ground.length → (lrow h i).length = h.ground.length) (h3 : ∀ i, i < h.ground.length → gndOk h i = true ∧ ∀ k, k < h.ground.length → numOk h i k = true) : okArg h = true := by
  refine okArg_iff.2 ⟨h1, h2, fun i hi => ?_⟩
  obtain ⟨a, b⟩ := h3 i hi
  simp only [gndOk, inR, Bool.and_eq_true, decide_eq_true_eq, beq_iff_eq] at a
  refine ⟨a.1, a.2, fun k hk => ?_⟩
  have := b k hk
  simp only [numOk, inR, Bool.and_eq_true, decide_eq_true_eq, beq_iff_eq] at this
  exact this
theorem lget {h : Hp} (h1 : h.links.length = h.ground.length) {i : Nat} (hi : i < h.ground.length) : h.links[i]? = some (lrow h i) := by
  unfold lrow
  rw [List.getD_eq_getElem?_getD, List.getElem?_eq_getElem (by omega)]; rfl
theorem lget2 {h : Hp} {i k : Nat} (h2 : (lrow h i).length = h.ground.length) (hk : k < h.ground.length) : (lrow h i)[k]? = some (lnk h i k) := by
  unfold lnk
  rw [List.getD_eq_getElem?_getD (l := lrow h i), List.getElem?_eq_getElem (by omega)]; rfl
theorem atb_get {d : List Bool} {i : Nat} (hi : i < d.length) : d[i]? = some (atb d i) := by
  unfold atb
  rw [List.getD_eq_getElem?_getD, List.getElem?_eq_getElem hi]; rfl
theorem f166 (h : Hp) (v : VH h) (i : Nat) (hi : i < h.ground.length) : ACallsF Tryz.prog 166 [dHp h, i64 (i : Int)] (.one (.dv (i64 (h.sp.lim i)))) := by
  have hgg := gnd_get hi
  have hgl := v.get hi
  have hrl := v.row i hi
  have hgb := v.gb i hi
  have h5 := v.n5
  refine callsF_of Tryz.func166 rfl rfl (by rw [Tryz.ntmps166]; simp) fun cx hP hn hg => ?_
  rw [Tryz.ntmps166] at hn
  rw [startF_lk, none_mkM]
  simp only [List.nil_append, List.append_nil, List.cons_append, zipSV, Nat.reduceAdd]
  refine awp_seq ?_
  refine rg ?_
  refine qp m_box ?_
  refine qv m_as ?_
  show AWp cx _ _ _
  refine awp_seq ?_
  refine rg ?_
  refine qv (m_fdp fd27_1) ?_
  refine qv (m_ldp sz25 ag25) ?_
  refine qv m_mv ?_
  first | refine qv (m_ixN el25 sz3) ?_ | refine qv (m_ix el25 sz3) ?_
  refine qv (m_ld sz3 ag3) ?_
  refine qv m_as ?_
  show AWp cx _ _ _
  refine awp_seq ?_
  refine awp_seq ?_
  refine rg ?_
  refine qv (m_fdp fd27_0) ?_
  refine qv (m_ldp sz22 ag22) ?_
  refine qv m_mv ?_
  first | refine qv (m_ixN el22 sz25) ?_ | refine qv (m_ix el22 sz25) ?_
  refine qv (m_ld sz25 ag25) ?_
  refine qv (m_len il25) ?_
  refine qv m_mv ?_
  show AWp cx _ _ _
  refine awp_block ?_
  refine awp_loop (ι := Nat) (fun k => ⟨lk [(5, .dv (i64 (gnd h i + sm (lnk h i) k))), (17, .dv (ints (lrow h i))), (18, .dv (i64 (((lrow h i).length : Int)))), (19, .dv (i64 (k : Nat)))], mkM []⟩) (fun k => k ≤ h.ground.length ∧ 0 ≤ sm (lnk h i) k ∧ sm (lnk h i) k ≤ 2 * k) (fun k => h.ground.length - k) 0 (by simp [sm]) (tl [] (hF := by simp [FLe, svLe, lk, mkM, isLive, tauL, sm]) (hM := by simp [MLe, blkLe, svLe, svLes, lk, mkM, isLive, tauL, svLes_ints, svLes_self, isDvs, isDvs_map, isDvs_app, isDvs_take, isDvs_set, isDvs_repl, sm])) ?_
  intro k hφ0
  refine awp_seq ?_
  refine rg ?_
  refine qv m_lss ?_
  show AWp cx _ _ _
  refine awp_seq ?_
  refine cd (fun hc0 => ?_) (fun hc0 => ?_)
  · try simp at hc0
    refine awp_skip ?_
    show AWp cx _ _ _
    refine awp_seq ?_
    refine awp_block ?_
    refine awp_seq ?_
    refine rg ?_
    have hk : k < h.ground.length := by omega
    have hl2 := v.get2 hi hk
    have hlb := v.lb i k hi hk
    first | refine qv (m_ixN el25 sz3) ?_ | refine qv (m_ix el25 sz3) ?_
    refine qv (m_ld sz3 ag3) ?_
    refine qv m_as ?_
    show AWp cx _ _ _
    refine rg ?_
    refine qv m_mv ?_
    refine qv m_mv ?_
    refine qv m_add ?_
    refine qv m_as ?_
    show AWp cx _ _ _
    refine rg ?_
    refine qv m_add ?_
    refine qv m_mv ?_
    exact ⟨k + 1, ⟨hk, by simp only [sm]; omega, by simp only [sm]; omega⟩, (by simp only; omega), (tl [] (hF := by simp [FLe, svLe, lk, mkM, isLive, tauL, sm, Int.add_assoc]) (hM := by simp [MLe, blkLe, svLe, svLes, lk, mkM, isLive, tauL, svLes_ints, svLes_self, isDvs, isDvs_map, isDvs_app, isDvs_take, isDvs_set, isDvs_repl, sm, Int.add_assoc]))⟩
  · try simp at hc0
    refine awp_exit ?_
    show AWp cx _ _ _
    refine awp_seq ?_
    refine rg ?_
    refine qv m_mv ?_
    refine qv m_as ?_
    show AWp cx _ _ _
    refine awp_ret ?_
    obtain rfl : k = h.ground.length := by omega
    exact x1 (hr := rI_)
set_option maxHeartbeats 4000000 in
theorem f94 (h : Hp) : ACallsF Tryz.prog 94 [dHp h] (.one (.dv (i64 (validate h)))) := by
  refine callsF_of Tryz.func94 rfl rfl (by rw [Tryz.ntmps94]; simp) fun cx hP hn hg => ?_
  rw [Tryz.ntmps94] at hn
  rw [startF_lk, none_mkM]
  simp only [List.nil_append, List.append_nil, List.cons_append, zipSV, Nat.reduceAdd]
  refine awp_seq ?_
  refine rg ?_
  refine qp m_box ?_
  refine qv m_as ?_
  show AWp cx _ _ _
  refine awp_seq ?_
  refine rg ?_
  refine qv (m_fdp fd27_1) ?_
  refine qv (m_ldp sz25 ag25) ?_
  refine qv (m_len il25) ?_
  refine qv m_as ?_
  show AWp cx _ _ _
  refine awp_seq ?_
  refine awp_seq ?_
  refine rg ?_
  refine qv m_mv ?_
  refine qqF (f133 (h.ground.length) 1 5) ?_
  refine qv m_not ?_
  refine qx m_mv (fun hg16 => ?_) (fun hg16 => ?_)
  · try simp at hg16
    refine qk ?_
    refine qk ?_
    refine qk ?_
    refine qk ?_
    refine qk ?_
    refine qv m_pk ?_
    show AWp cx _ _ _
    refine cdT (hb := by first | rfl | simp | simp_all) (ht := ?_)
    refine awp_seq ?_
    refine rg ?_
    refine qv m_as ?_
    show AWp cx _ _ _
    refine awp_ret ?_
    exact x1 (hr := (rI_ (by rw [val_bad (val_n (by rintro ⟨a, b, c⟩; simp_all [inR]; try omega))])))
  · try simp at hg16
    refine qv (m_fdp fd27_0) ?_
    refine qv (m_ldp sz22 ag22) ?_
    refine qv (m_len il22) ?_
    refine qv m_mv ?_
    refine qv m_neq ?_
    refine qv m_pk ?_
    show AWp cx _ _ _
    refine cd (fun hc0 => ?_) (fun hc0 => ?_)
    · try simp at hc0
      refine awp_seq ?_
      refine rg ?_
      refine qv m_as ?_
      show AWp cx _ _ _
      refine awp_ret ?_
      exact x1 (hr := (rI_ (by rw [val_bad (val_n (by rintro ⟨a, b, c⟩; simp_all [inR]; try omega))])))
    · try simp at hc0
      have hn : 1 ≤ h.ground.length ∧ h.ground.length ≤ 5 ∧ h.links.length = h.ground.length := by
        simp only [inR, Bool.and_eq_true, decide_eq_true_eq] at hg16
        exact ⟨by omega, by omega, by omega⟩
      refine awp_skip ?_
      show AWp cx _ _ _
      refine awp_seq ?_
      refine awp_seq ?_
      refine rg ?_
      refine qv m_mv ?_
      refine qv m_mv ?_
      show AWp cx _ _ _
      refine awp_block ?_
      refine awp_loop (ι := Nat) (fun i => ⟨lk [(1, .pt 1 0 0), (3, .dv (i64 ((h.ground.length : Int)))), (23, .dv (i64 ((h.ground.length : Int)))), (24, .dv (i64 (i : Nat)))], mkM [(1, 0, some ⟨[.dv (.list ((h.links).map ints)), .dv (ints (h.ground))], 0, 27, 0, false⟩)]⟩) (fun i => i ≤ h.ground.length ∧ ∀ j, j < i → (lrow h j).length = h.ground.length) (fun i => h.ground.length - i) 0 (by simp) (tl [(1, 1)]) ?_
      intro i hφ0
      refine awp_seq ?_
      refine rg ?_
      refine qv m_lss ?_
      show AWp cx _ _ _
      refine awp_seq ?_
      refine cd (fun hc1 => ?_) (fun hc1 => ?_)
      · try simp at hc1
        refine awp_skip ?_
        show AWp cx _ _ _
        refine awp_seq ?_
        refine awp_block ?_
        refine awp_seq ?_
        refine rg ?_
        refine qv m_mv ?_
        refine qv m_as ?_
        show AWp cx _ _ _
        refine awp_seq ?_
        refine rg ?_
        have hi0 : i < h.ground.length := by omega
        have hgl := lget hn.2.2 hi0
        refine qv (m_fdp fd27_0) ?_
        refine qv (m_ldp sz22 ag22) ?_
        refine qv m_mv ?_
        first | refine qv (m_ixN el22 sz25) ?_ | refine qv (m_ix el22 sz25) ?_
        refine qv (m_ld sz25 ag25) ?_
        refine qv (m_len il25) ?_
        refine qv m_mv ?_
        refine qv m_neq ?_
        show AWp cx _ _ _
        refine cd (fun hc2 => ?_) (fun hc2 => ?_)
        · try simp at hc2
          refine awp_seq ?_
          refine rg ?_
          refine qv m_as ?_
          show AWp cx _ _ _
          refine awp_ret ?_
          exact x1 (hr := (rI_ (by rw [val_bad (val_row hi0 (by exact_mod_cast hc2))])))
        · try simp at hc2
          refine awp_skip ?_
          show AWp cx _ _ _
          refine rg ?_
          refine qv m_add ?_
          refine qv m_mv ?_
          refine ⟨i + 1, ?_, (by simp only; omega), (tl [(1, 1)])⟩
          refine ⟨by omega, fun j hj => ?_⟩
          rcases Nat.lt_or_ge j i with h1 | h1
          · exact hφ0.2 j h1
          · obtain rfl : j = i := by omega
            exact_mod_cast hc2
      · try simp at hc1
        refine awp_exit ?_
        show AWp cx _ _ _
        refine awp_seq ?_
        refine awp_seq ?_
        refine rg ?_
        have hrow : ∀ j, j < h.ground.length → (lrow h j).length = h.ground.length := fun j hj => hφ0.2 j (by omega)
        refine qv m_mv ?_
        refine qv m_mv ?_
        show AWp cx _ _ _
        refine awp_block ?_
        refine awp_loop (ι := Nat) (fun i => ⟨lk [(1, .pt 1 0 0), (3, .dv (i64 ((h.ground.length : Int)))), (36, .dv (i64 ((h.ground.length : Int)))), (37, .dv (i64 (i : Nat)))], mkM [(1, 0, some ⟨[.dv (.list ((h.links).map ints)), .dv (ints (h.ground))], 0, 27, 0, false⟩)]⟩) (fun i => i ≤ h.ground.length ∧ ∀ j, j < i → gndOk h j = true ∧ ∀ k, k < h.ground.length → numOk h j k = true) (fun i => h.ground.length - i) 0 (by simp) (tl [(1, 1)]) ?_
        intro i hφ1
        refine awp_seq ?_
        refine rg ?_
        refine qv m_lss ?_
        show AWp cx _ _ _
        refine awp_seq ?_
        refine cd (fun hc3 => ?_) (fun hc3 => ?_)
        · try simp at hc3
          refine awp_skip ?_
          show AWp cx _ _ _
          refine awp_seq ?_
          refine awp_block ?_
          refine awp_seq ?_
          refine rg ?_
          refine qv m_mv ?_
          refine qv m_as ?_
          show AWp cx _ _ _
          refine awp_seq ?_
          refine awp_seq ?_
          refine rg ?_
          have hi1 : i < h.ground.length := by omega
          have hgl := lget hn.2.2 hi1
          have hgg := gnd_get hi1
          have hll := lget2 (hrow i hi1) hi1
          refine qv (m_fdp fd27_1) ?_
          refine qv (m_ldp sz25 ag25) ?_
          refine qv m_mv ?_
          first | refine qv (m_ixN el25 sz3) ?_ | refine qv (m_ix el25 sz3) ?_
          refine qv (m_ld sz3 ag3) ?_
          refine qqF (f133 (gnd h i) 0 2) ?_
          refine qv m_not ?_
          refine qx m_mv (fun hg47 => ?_) (fun hg47 => ?_)
          · try simp at hg47
            refine qk ?_
            refine qk ?_
            refine qk ?_
            refine qk ?_
            refine qk ?_
            refine qk ?_
            refine qk ?_
            refine qk ?_
            refine qk ?_
            refine qv m_pk ?_
            show AWp cx _ _ _
            refine cdT (hb := by first | rfl | simp | simp_all) (ht := ?_)
            refine awp_seq ?_
            refine rg ?_
            refine qv m_as ?_
            show AWp cx _ _ _
            refine awp_ret ?_
            exact x1 (hr := (rI_ (by rw [val_bad (val_gnd hi1 (by simp_all [gndOk]))])))
          · try simp at hg47
            refine qv (m_fdp fd27_0) ?_
            refine qv (m_ldp sz22 ag22) ?_
            refine qv m_mv ?_
            first | refine qv (m_ixN el22 sz25) ?_ | refine qv (m_ix el22 sz25) ?_
            refine qv (m_ld sz25 ag25) ?_
            refine qv m_mv ?_
            first | refine qv (m_ixN el25 sz3) ?_ | refine qv (m_ix el25 sz3) ?_
            refine qv (m_ld sz3 ag3) ?_
            refine qv m_neq ?_
            refine qv m_pk ?_
            show AWp cx _ _ _
            refine cd (fun hc4 => ?_) (fun hc4 => ?_)
            · try simp at hc4
              refine awp_seq ?_
              refine rg ?_
              refine qv m_as ?_
              show AWp cx _ _ _
              refine awp_ret ?_
              exact x1 (hr := (rI_ (by rw [val_bad (val_gnd hi1 (by simp_all [gndOk]))])))
            · try simp at hc4
              have hgo : gndOk h i = true := by
                simp only [gndOk, Bool.and_eq_true, beq_iff_eq]
                exact ⟨by simpa using hg47, by simpa using hc4⟩
              refine awp_skip ?_
              show AWp cx _ _ _
              refine awp_seq ?_
              refine rg ?_
              refine qv m_mv ?_
              refine qv m_mv ?_
              show AWp cx _ _ _
              refine awp_block ?_
              refine awp_loop (ι := Nat) (fun k => ⟨lk [(1, .pt 1 0 0), (3, .dv (i64 ((h.ground.length : Int)))), (5, .dv (i64 (i : Nat))), (36, .dv (i64 ((h.ground.length : Int)))), (37, .dv (i64 (i : Nat))), (58, .dv (i64 ((h.ground.length : Int)))), (59, .dv (i64 (k : Nat)))], mkM [(1, 0, some ⟨[.dv (.list ((h.links).map ints)), .dv (ints (h.ground))], 0, 27, 0, false⟩)]⟩) (fun k => k ≤ h.ground.length ∧ ∀ j, j < k → numOk h i j = true) (fun k => h.ground.length - k) 0 (by simp) (tl [(1, 1)]) ?_
              intro k hφ2
              refine awp_seq ?_
              refine rg ?_
              refine qv m_lss ?_
              show AWp cx _ _ _
              refine awp_seq ?_
              refine cd (fun hc5 => ?_) (fun hc5 => ?_)
              · try simp at hc5
                refine awp_skip ?_
                show AWp cx _ _ _
                refine awp_seq ?_
                refine awp_block ?_
                refine awp_seq ?_
                refine rg ?_
                refine qv m_mv ?_
                refine qv m_as ?_
                show AWp cx _ _ _
                refine awp_seq ?_
                have hk2 : k < h.ground.length := by omega
                have hgk := lget hn.2.2 hk2
                have hl2 := lget2 (hrow i hi1) hk2
                have hl3 := lget2 (hrow k hk2) hi1
                refine rd mixed ?_
                refine zv (m_fdp fd27_0) ?_
                refine zv (m_ldp sz22 ag22) ?_
                refine zv m_mv ?_
                first | refine zv (m_ixN el22 sz25) ?_ | refine zv (m_ix el22 sz25) ?_
                refine zv (m_ld sz25 ag25) ?_
                refine zv m_mv ?_
                first | refine zv (m_ixN el25 sz3) ?_ | refine zv (m_ix el25 sz3) ?_
                refine zv (m_ld sz3 ag3) ?_
                refine zqF (R := []) (f133 (lnk h i k) 0 2) ?_
                refine zv m_not ?_
                refine zx m_mv (fun hg72 => ?_) (fun hg72 => ?_)
                · try simp at hg72
                  refine zk ?_
                  refine zk ?_
                  refine zk ?_
                  refine zk ?_
                  refine zk ?_
                  refine zk ?_
                  refine zk ?_
                  refine zk ?_
                  refine zk ?_
                  refine zk ?_
                  refine zk ?_
                  refine zk ?_
                  refine zk ?_
                  refine zk ?_
                  refine zk ?_
                  refine zk ?_
                  refine zk ?_
                  refine zv m_pk ?_
                  refine ⟨by rfl, ?_⟩
                  show AWp cx _ _ _
                  refine cdT (hb := by first | rfl | simp | simp_all) (ht := ?_)
                  refine awp_seq ?_
                  refine rg ?_
                  refine qv m_as ?_
                  show AWp cx _ _ _
                  refine awp_ret ?_
                  exact x1 (hr := (rI_ (by rw [val_bad (val_num hi1 hk2 (by simp_all [numOk]))])))
                · try simp at hg72
                  refine zv (m_fdp fd27_0) ?_
                  refine zv (m_ldp sz22 ag22) ?_
                  refine zv m_mv ?_
                  first | refine zv (m_ixN el22 sz25) ?_ | refine zv (m_ix el22 sz25) ?_
                  refine zv (m_ld sz25 ag25) ?_
                  refine zv m_mv ?_
                  first | refine zv (m_ixN el25 sz3) ?_ | refine zv (m_ix el25 sz3) ?_
                  refine zv (m_ld sz3 ag3) ?_
                  refine zv (m_fdp fd27_0) ?_
                  refine zv (m_ldp sz22 ag22) ?_
                  refine zv m_mv ?_
                  first | refine zv (m_ixN el22 sz25) ?_ | refine zv (m_ix el22 sz25) ?_
                  refine zv (m_ld sz25 ag25) ?_
                  refine zv m_mv ?_
                  first | refine zv (m_ixN el25 sz3) ?_ | refine zv (m_ix el25 sz3) ?_
                  refine zv (m_ld sz3 ag3) ?_
                  refine zv m_neq ?_
                  refine zv m_pk ?_
                  refine ⟨by rfl, ?_⟩
                  show AWp cx _ _ _
                  refine cd (fun hc6 => ?_) (fun hc6 => ?_)
                  · try simp at hc6
                    refine awp_seq ?_
                    refine rg ?_
                    refine qv m_as ?_
                    show AWp cx _ _ _
                    refine awp_ret ?_
                    exact x1 (hr := (rI_ (by rw [val_bad (val_num hi1 hk2 (by simp_all [numOk]))])))
                  · try simp at hc6
                    refine awp_skip ?_
                    show AWp cx _ _ _
                    refine rg ?_
                    refine qv m_add ?_
                    refine qv m_mv ?_
                    refine ⟨k + 1, ?_, (by simp only; omega), (tl [(1, 1)])⟩
                    refine ⟨by omega, fun j hj => ?_⟩
                    rcases Nat.lt_or_ge j k with h1 | h1
                    · exact hφ2.2 j h1
                    · obtain rfl : j = k := by omega
                      simp_all [numOk, inR]; try omega
              · try simp at hc5
                refine awp_exit ?_
                show AWp cx _ _ _
                refine rg ?_
                refine qv m_add ?_
                refine qv m_mv ?_
                refine ⟨i + 1, ?_, (by simp only; omega), (tl [(1, 1)])⟩
                refine ⟨by omega, fun j hj => ?_⟩
                rcases Nat.lt_or_ge j i with h1 | h1
                · exact hφ1.2 j h1
                · obtain rfl : j = i := by omega
                  exact ⟨hgo, fun k hk => hφ2.2 k (by omega)⟩
        · try simp at hc3
          refine awp_exit ?_
          show AWp cx _ _ _
          refine awp_seq ?_
          refine rg ?_
          refine qv m_mv ?_
          have hok : okArg h = true := okArg_mk hn hrow fun j hj => hφ1.2 j (by omega)
          refine qr (m_mkB el160 ze4 sz4 by4) ?_
          refine qv m_as ?_
          show AWp cx _ _ _
          refine awp_seq ?_
          refine awp_seq ?_
          refine rg ?_
          refine qv m_mv ?_
          refine qv m_mv ?_
          show AWp cx _ _ _
          refine awp_block ?_
          refine awp_loop (ι := Nat) (fun r => ⟨lk [(1, .pt 1 0 0), (3, .dv (i64 ((h.ground.length : Int)))), (7, .sl 7 0 0 h.ground.length), (95, .dv (i64 ((h.ground.length : Int)))), (96, .dv (i64 (r : Nat)))], mkM [(1, 0, some ⟨[.dv (.list ((h.links).map ints)), .dv (ints (h.ground))], 0, 27, 0, false⟩), (7, 0, some (rowT 4 (rnd h r)))]⟩) (fun r => r ≤ h.ground.length) (fun r => h.ground.length - r) 0 (by simp) (tl [(1, 1), (7, 94)] (hF := by simp [FLe, svLe, lk, mkM, isLive, tauL, rnd, Int.toNat_natCast]) (hM := by simp [MLe, blkLe, svLe, svLes, lk, mkM, isLive, tauL, svLes_ints, svLes_self, isDvs, isDvs_map, isDvs_app, isDvs_take, isDvs_set, isDvs_repl, rnd, Int.toNat_natCast])) ?_
          intro r hφ3
          refine awp_seq ?_
          refine rg ?_
          refine qv m_lss ?_
          show AWp cx _ _ _
          refine awp_seq ?_
          refine cd (fun hc7 => ?_) (fun hc7 => ?_)
          · try simp at hc7
            have hr3 : r < h.ground.length := by exact_mod_cast hc7
            refine awp_skip ?_
            show AWp cx _ _ _
            refine awp_seq ?_
            refine awp_block ?_
            refine awp_seq ?_
            refine rg ?_
            refine qv m_mv ?_
            refine qv m_mv ?_
            show AWp cx _ _ _
            refine awp_block ?_
            refine awp_loop (ι := Nat) (fun i => ⟨lk [(1, .pt 1 0 0), (3, .dv (i64 ((h.ground.length : Int)))), (7, .sl 7 0 0 h.ground.length), (95, .dv (i64 ((h.ground.length : Int)))), (96, .dv (i64 (r : Nat))), (98, .dv (i64 ((h.ground.length : Int)))), (99, .dv (i64 (i : Nat)))], mkM [(1, 0, some ⟨[.dv (.list ((h.links).map ints)), .dv (ints (h.ground))], 0, 27, 0, false⟩), (7, 0, some (rowT 4 (pas h (rnd h r) i)))]⟩) (fun i => i ≤ h.ground.length) (fun i => h.ground.length - i) 0 (by simp) (tl [(1, 1), (7, 7)] (hF := by simp [FLe, svLe, lk, mkM, isLive, tauL, pas]) (hM := by simp [MLe, blkLe, svLe, svLes, lk, mkM, isLive, tauL, svLes_ints, svLes_self, isDvs, isDvs_map, isDvs_app, isDvs_take, isDvs_set, isDvs_repl, pas])) ?_
            intro i hφ4
            refine awp_seq ?_
            refine rg ?_
            refine qv m_lss ?_
            show AWp cx _ _ _
            refine awp_seq ?_
            refine cd (fun hc8 => ?_) (fun hc8 => ?_)
            · try simp at hc8
              have hi4 : i < h.ground.length := by exact_mod_cast hc8
              have hgl := lget hn.2.2 hi4
              have hgg := gnd_get hi4
              refine awp_skip ?_
              show AWp cx _ _ _
              refine awp_seq ?_
              refine awp_block ?_
              refine awp_seq ?_
              refine rg ?_
              refine qv m_mv ?_
              refine qv m_as ?_
              show AWp cx _ _ _
              refine awp_seq ?_
              refine rg ?_
              refine qv m_mv ?_
              refine qv m_mv ?_
              show AWp cx _ _ _
              refine awp_block ?_
              refine awp_loop (ι := Nat) (fun k => ⟨lk [(1, .pt 1 0 0), (3, .dv (i64 ((h.ground.length : Int)))), (7, .sl 7 0 0 h.ground.length), (8, .dv (i64 (i : Nat))), (95, .dv (i64 ((h.ground.length : Int)))), (96, .dv (i64 (r : Nat))), (98, .dv (i64 ((h.ground.length : Int)))), (99, .dv (i64 (i : Nat))), (102, .dv (i64 ((h.ground.length : Int)))), (103, .dv (i64 (k : Nat)))], mkM [(1, 0, some ⟨[.dv (.list ((h.links).map ints)), .dv (ints (h.ground))], 0, 27, 0, false⟩), (7, 0, some (rowT 4 (inn h (pas h (rnd h r) i) i k)))]⟩) (fun k => k ≤ h.ground.length) (fun k => h.ground.length - k) 0 (by simp) (tl [(1, 1), (7, 7)] (hF := by simp [FLe, svLe, lk, mkM, isLive, tauL, inn]) (hM := by simp [MLe, blkLe, svLe, svLes, lk, mkM, isLive, tauL, svLes_ints, svLes_self, isDvs, isDvs_map, isDvs_app, isDvs_take, isDvs_set, isDvs_repl, inn])) ?_
              intro k hφ5
              refine awp_seq ?_
              refine rg ?_
              refine qv m_lss ?_
              show AWp cx _ _ _
              refine awp_seq ?_
              refine cd (fun hc9 => ?_) (fun hc9 => ?_)
              · try simp at hc9
                have hk5 : k < h.ground.length := by exact_mod_cast hc9
                have hl2 := lget2 (hrow i hi4) hk5
                have hil := inn_len (h := h) (d := pas h (rnd h r) i) (i := i) k
                rw [pas_len, rnd_len] at hil
                have hbi := atb_get (d := inn h (pas h (rnd h r) i) i k) (i := i) (by omega)
                have hbk := atb_get (d := inn h (pas h (rnd h r) i) i k) (i := k) (by omega)
                refine awp_skip ?_
                show AWp cx _ _ _
                refine awp_seq ?_
                refine awp_block ?_
                refine awp_seq ?_
                refine rg ?_
                refine qv m_mv ?_
                refine qv m_as ?_
                show AWp cx _ _ _
                refine rg ?_
                refine qv m_mv ?_
                refine qv m_mv ?_
                refine qv m_mv ?_
                refine qv m_mv ?_
                refine qv (m_ixR el160 sz4) ?_
                refine qv (m_ldB sz4 ag4 (hq := hbi)) ?_
                refine qx m_mv (fun hg112 => ?_) (fun hg112 => ?_)
                · try simp at hg112
                  refine qk ?_
                  refine qk ?_
                  refine qk ?_
                  refine qk ?_
                  refine qk ?_
                  refine qk ?_
                  refine qv m_pk ?_
                  refine qv m_mv ?_
                  refine qk ?_
                  refine qk ?_
                  refine qk ?_
                  refine qk ?_
                  refine qk ?_
                  refine qk ?_
                  refine qk ?_
                  refine qk ?_
                  refine qk ?_
                  refine qk ?_
                  refine qk ?_
                  refine qk ?_
                  refine qk ?_
                  refine qk ?_
                  refine qk ?_
                  refine qv m_pk ?_
                  refine qv (m_ixR el160 sz4) ?_
                  have hneg : gnd h i ≤ 0 → decide (0 < gnd h i) = false := fun hh => decide_eq_false (by omega)
                  refine qs (m_stB sz4) ?_
                  show AWp cx _ _ _
                  refine rg ?_
                  refine qv m_add ?_
                  refine qv m_mv ?_
                  exact ⟨k + 1, hk5, (by simp only; omega), (tl [(1, 1), (7, 7)] (hF := by simp [FLe, svLe, lk, mkM, isLive, tauL, inn, *]) (hM := by simp [MLe, blkLe, svLe, svLes, lk, mkM, isLive, tauL, svLes_ints, svLes_self, isDvs, isDvs_map, isDvs_app, isDvs_take, isDvs_set, isDvs_repl, inn, *]))⟩
                · try simp at hg112
                  refine qv (m_fdp fd27_1) ?_
                  refine qv (m_ldp sz25 ag25) ?_
                  refine qv m_mv ?_
                  first | refine qv (m_ixN el25 sz3) ?_ | refine qv (m_ix el25 sz3) ?_
                  refine qv (m_ld sz3 ag3) ?_
                  refine qv m_gtr ?_
                  refine qv m_pk ?_
                  refine qx m_mv (fun hg120 => ?_) (fun hg120 => ?_)
                  · try simp at hg120
                    refine qk ?_
                    refine qk ?_
                    refine qk ?_
                    refine qk ?_
                    refine qk ?_
                    refine qk ?_
                    refine qk ?_
                    refine qk ?_
                    refine qk ?_
                    refine qk ?_
                    refine qk ?_
                    refine qk ?_
                    refine qk ?_
                    refine qk ?_
                    refine qk ?_
                    refine qv m_pk ?_
                    refine qv (m_ixR el160 sz4) ?_
                    have hneg : gnd h i ≤ 0 → decide (0 < gnd h i) = false := fun hh => decide_eq_false (by omega)
                    refine qs (m_stB sz4) ?_
                    show AWp cx _ _ _
                    refine rg ?_
                    refine qv m_add ?_
                    refine qv m_mv ?_
                    exact ⟨k + 1, hk5, (by simp only; omega), (tl [(1, 1), (7, 7)] (hF := by simp [FLe, svLe, lk, mkM, isLive, tauL, inn, *]) (hM := by simp [MLe, blkLe, svLe, svLes, lk, mkM, isLive, tauL, svLes_ints, svLes_self, isDvs, isDvs_map, isDvs_app, isDvs_take, isDvs_set, isDvs_repl, inn, *]))⟩
                  · try simp at hg120
                    refine qv m_mv ?_
                    refine qv m_mv ?_
                    refine qv (m_ixR el160 sz4) ?_
                    refine qv (m_ldB sz4 ag4 (hq := hbk)) ?_
                    refine qx m_mv (fun hg125 => ?_) (fun hg125 => ?_)
                    · try simp at hg125
                      refine qv (m_fdp fd27_0) ?_
                      refine qv (m_ldp sz22 ag22) ?_
                      refine qv m_mv ?_
                      first | refine qv (m_ixN el22 sz25) ?_ | refine qv (m_ix el22 sz25) ?_
                      refine qv (m_ld sz25 ag25) ?_
                      refine qv m_mv ?_
                      first | refine qv (m_ixN el25 sz3) ?_ | refine qv (m_ix el25 sz3) ?_
                      refine qv (m_ld sz3 ag3) ?_
                      refine qv m_gtr ?_
                      refine qv m_pk ?_
                      refine qv m_pk ?_
                      refine qv (m_ixR el160 sz4) ?_
                      have hneg : gnd h i ≤ 0 → decide (0 < gnd h i) = false := fun hh => decide_eq_false (by omega)
                      refine qs (m_stB sz4) ?_
                      show AWp cx _ _ _
                      refine rg ?_
                      refine qv m_add ?_
                      refine qv m_mv ?_
                      exact ⟨k + 1, hk5, (by simp only; omega), (tl [(1, 1), (7, 7)] (hF := by simp [FLe, svLe, lk, mkM, isLive, tauL, inn, *]) (hM := by simp [MLe, blkLe, svLe, svLes, lk, mkM, isLive, tauL, svLes_ints, svLes_self, isDvs, isDvs_map, isDvs_app, isDvs_take, isDvs_set, isDvs_repl, inn, *]))⟩
                    · try simp at hg125
                      refine qk ?_
                      refine qk ?_
                      refine qk ?_
                      refine qk ?_
                      refine qk ?_
                      refine qk ?_
                      refine qk ?_
                      refine qk ?_
                      refine qk ?_
                      refine qv m_pk ?_
                      refine qv m_pk ?_
                      refine qv (m_ixR el160 sz4) ?_
                      have hneg : gnd h i ≤ 0 → decide (0 < gnd h i) = false := fun hh => decide_eq_false (by omega)
                      refine qs (m_stB sz4) ?_
                      show AWp cx _ _ _
                      refine rg ?_
                      refine qv m_add ?_
                      refine qv m_mv ?_
                      exact ⟨k + 1, hk5, (by simp only; omega), (tl [(1, 1), (7, 7)] (hF := by simp [FLe, svLe, lk, mkM, isLive, tauL, inn, *]) (hM := by simp [MLe, blkLe, svLe, svLes, lk, mkM, isLive, tauL, svLes_ints, svLes_self, isDvs, isDvs_map, isDvs_app, isDvs_take, isDvs_set, isDvs_repl, inn, *]))⟩
              · try simp at hc9
                have hps : pas h (rnd h r) (i + 1) = inn h (pas h (rnd h r) i) i k := by rw [show k = h.ground.length by omega]; rfl
                refine awp_exit ?_
                show AWp cx _ _ _
                refine rg ?_
                refine qv m_add ?_
                refine qv m_mv ?_
                exact ⟨i + 1, hi4, (by simp only; omega), (tl [(1, 1), (7, 7)] (hF := by simp [FLe, svLe, lk, mkM, isLive, tauL, hps]) (hM := by simp [MLe, blkLe, svLe, svLes, lk, mkM, isLive, tauL, svLes_ints, svLes_self, isDvs, isDvs_map, isDvs_app, isDvs_take, isDvs_set, isDvs_repl, hps]))⟩
            · try simp at hc8
              have hrd : rnd h (r + 1) = pas h (rnd h r) i := by rw [show i = h.ground.length by omega]; rfl
              refine awp_exit ?_
              show AWp cx _ _ _
              refine rg ?_
              refine qv m_add ?_
              refine qv m_mv ?_
              exact ⟨r + 1, hr3, (by simp only; omega), (tl [(1, 1), (7, 7)] (hF := by simp [FLe, svLe, lk, mkM, isLive, tauL, hrd]) (hM := by simp [MLe, blkLe, svLe, svLes, lk, mkM, isLive, tauL, svLes_ints, svLes_self, isDvs, isDvs_map, isDvs_app, isDvs_take, isDvs_set, isDvs_repl, hrd]))⟩
          · try simp at hc7
            obtain rfl : r = h.ground.length := by omega
            refine awp_exit ?_
            show AWp cx _ _ _
            refine awp_seq ?_
            refine awp_seq ?_
            refine rg ?_
            refine qv m_mv ?_
            refine qqF (f134 (rnd h h.ground.length) (by rw [rnd_len]; omega)) ?_ (ha := (args_cons (data_bools (L := rnd h h.ground.length) (by simp only [mkM, reduceIte, Nat.reduceEqDiff] <;> rfl) trivial (rnd_len _) (fun _ => trivial)) (args_cons data_dv args_nil)))
            show AWp cx _ _ _
            refine cd (fun hc10 => ?_) (fun hc10 => ?_)
            · skip
              refine awp_seq ?_
              refine rg ?_
              refine qv m_as ?_
              show AWp cx _ _ _
              refine awp_ret ?_
              exact x1 (hr := (rI_ (by rw [val_good hok, if_pos hc10])))
            · skip
              refine awp_skip ?_
              show AWp cx _ _ _
              refine awp_seq ?_
              refine rg ?_
              refine qv m_as ?_
              show AWp cx _ _ _
              refine awp_ret ?_
              exact x1 (hr := (rI_ (by rw [val_good hok, if_neg (by rw [hc10]; simp)])))
end Go.Ab.Tryz.H
