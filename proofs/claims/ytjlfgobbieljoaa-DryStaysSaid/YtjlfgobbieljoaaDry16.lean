/- The functions of the dry laws, part 16. The walks are written by wip/gen/gw.py. -/
import Derived.Test.YtjlfgobbieljoaaDry15
import Derived.Test.YtjlfgobbieljoaaAb26
set_option linter.all false
namespace Go.Ab.Try
open Go Go.Ab Go.Proofs

theorem awp_frz {cx : Cx} {c : Code} {K : Exit → St → Prop} {l : List (Nat × SV)} {m : List (Nat × Nat × Option Blk)} (t : Nat) {g : Nat} {b : Blk} (k : AWp cx c K ⟨lk l, mkM ((t, g, some { b with st := 1 }) :: m)⟩) (h0 : mkM m t = (g, some b) := by (simp only [mkM, reduceIte, Nat.reduceEqDiff] <;> rfl)) (h1 : OwS b.st ∨ b.st = 1 := by (first | exact .inl (.inl rfl) | exact .inr rfl)) : AWp cx c K ⟨lk l, mkM m⟩ := by
  refine AWp.le (Le.freeze (S := ⟨lk l, mkM m⟩) h0 h1) ?_
  rw [upd_mkM]; exact k
def stpG (tc nd : Stp → List Int) (out : List Int) (s : Stp) : List Int := if meets (nd s) out then out else delF (fun p => decide (0 < sg (tc s) p.toNat)) out
def passG (tc nd : Stp → List Int) (y : Yd) (out : List Int) : List Int := y.steps.foldl (stpG tc nd) out
theorem delF_sub {p : Int → Bool} {L : List Int} : (delF p L).Sublist L := List.filter_sublist
theorem stpG_sub {tc nd : Stp → List Int} {out : List Int} {s : Stp} : (stpG tc nd out s).Sublist out := by
  unfold stpG
  split
  · exact List.Sublist.refl _
  · exact delF_sub
theorem foldG_sub {tc nd : Stp → List Int} : ∀ {l : List Stp} {out : List Int}, (l.foldl (stpG tc nd) out).Sublist out
  | [], out => List.Sublist.refl _
  | s :: l, out => (foldG_sub (l := l)).trans stpG_sub
theorem foldG_lt {tc nd : Stp → List Int} : ∀ {l : List Stp} {out : List Int}, (l.any fun s => meets (tc s) out && !meets (nd s) out) = true → (l.foldl (stpG tc nd) out).length < out.length
  | [], out, h => by simp at h
  | s :: l, out, h => by
    simp only [List.foldl_cons]
    by_cases hs : (meets (tc s) out && !meets (nd s) out) = true
    · simp only [Bool.and_eq_true, Bool.not_eq_true'] at hs
      refine Nat.lt_of_le_of_lt foldG_sub.length_le ?_
      unfold stpG
      rw [if_neg (by simp [hs.2])]
      unfold delF
      rw [List.length_filter_lt_length_iff_exists]
      obtain ⟨p, hp, hq⟩ := List.any_eq_true.1 hs.1
      exact ⟨p, hp, by simpa using hq⟩
    · rcases Nat.lt_or_ge (stpG tc nd out s).length out.length with h1 | h1
      · exact Nat.lt_of_le_of_lt foldG_sub.length_le h1
      · rw [stpG_sub.eq_of_length_le h1]
        refine foldG_lt ?_
        rw [List.any_cons] at h
        simp only [Bool.or_eq_true] at h
        rcases h with h | h
        · exact absurd h hs
        · exact h
theorem passG_sub {tc nd : Stp → List Int} {y : Yd} {out : List Int} : (passG tc nd y out).Sublist out := foldG_sub
theorem passG_lt {tc nd : Stp → List Int} {y : Yd} {out : List Int} (h : ¬ srtB tc nd y out = true) : (passG tc nd y out).length < out.length :=
  foldG_lt (by unfold srtB at h; simpa using h)
def great (tc nd : Stp → List Int) (y : Yd) (out : List Int) : List Int :=
  if _h : srtB tc nd y out = true then out else great tc nd y (passG tc nd y out)
termination_by out.length
decreasing_by exact passG_lt _h
theorem great_yes {tc nd : Stp → List Int} {y : Yd} {out : List Int} (h : srtB tc nd y out = true) : great tc nd y out = out := by
  rw [great]; exact dif_pos h
theorem great_no {tc nd : Stp → List Int} {y : Yd} {out : List Int} (h : ¬ srtB tc nd y out = true) : great tc nd y out = great tc nd y (passG tc nd y out) := by
  rw [great]; exact dif_neg h
theorem passG_at {tc nd : Stp → List Int} {l : List Stp} {out : List Int} {i : Nat} {s : Stp} (h : l[i]? = some s) : (l.take (i + 1)).foldl (stpG tc nd) out = stpG tc nd ((l.take i).foldl (stpG tc nd) out) s := by
  rw [take_snoc h, List.foldl_append]; rfl
theorem InL.sub {a b l : List Int} (h : InL a l) (hs : b.Sublist a) : InL b l := fun p hp => h p (hs.subset hp)


theorem f108 (nm : ByteArray) (ft fn : Nat) (tc : Stp → List Int) (s : Stp) (x : Int) (ht : ACalls Try.prog ft ([] ++ [dStp s] ++ []) (.one (.dv (ints (tc s))))) (h0 : 0 ≤ x) (h1 : x < (tc s).length) :
    ACallsF Try.prog 108 [i64 x, .cptr [.str nm, .fn ft [] [], .fn fn [] []], .cptr [ints s.take, ints s.give]] (.one (.dv (.bool (decide (0 < sg (tc s) x.toNat))))) := by
  have hge := sg_get (l := tc s) (i := x.toNat) (by omega)
  refine callsF_of Try.func108 rfl rfl (by rw [Try.ntmps108]; simp) fun cx hP hn hg => ?_
  rw [Try.ntmps108] at hn
  rw [startF_lk, none_mkM]
  simp only [List.nil_append, List.append_nil, List.cons_append, zipSV, Nat.reduceAdd]
  refine awp_seq ?_
  refine rg ?_
  refine qv m_as ?_
  show AWp cx _ _ _
  refine awp_seq ?_
  refine rg ?_
  refine qv (m_fd fd77_1) ?_
  refine qv (m_ld sz75 ag75) ?_
  refine qv (m_lda sz55 ag55) ?_
  refine qqVA (ht) ?_
  refine qv m_mv ?_
  first | refine qv (m_ixN el25 sz3) ?_ | refine qv (m_ix el25 sz3) ?_ | refine qv (m_ixR el25 sz3) ?_
  first | refine qv (m_ld sz3 ag3) ?_ | refine qv (m_ldp sz3 ag3) ?_
  refine qv m_gtr ?_
  refine qv m_as ?_
  show AWp cx _ _ _
  refine awp_ret ?_
  exact x1 (hr := (rD_))

theorem f94 (nm : ByteArray) (ft fn : Nat) (tc nd : Stp → List Int) (y : Yd) (set : List Int) (ht : ∀ s ∈ y.steps, ACalls Try.prog ft ([] ++ [dStp s] ++ []) (.one (.dv (ints (tc s))))) (hnd : ∀ s ∈ y.steps, ACalls Try.prog fn ([] ++ [dStp s] ++ []) (.one (.dv (ints (nd s)))))
    (h1 : ∀ s ∈ y.steps, InL set (tc s)) (h2 : ∀ s ∈ y.steps, InL set (nd s)) (hl : set.length < 1000000) (hy : y.steps.length < 1000000) : ACallsF Try.prog 94 [dSrt nm ft fn, dYd y, ints set] (.one (.dv (ints (great tc nd y set)))) := by
  refine callsF_of Try.func94 rfl rfl (by rw [Try.ntmps94]; simp) fun cx hP hn hg => ?_
  rw [Try.ntmps94] at hn
  rw [startF_lk, none_mkM]
  simp only [List.nil_append, List.append_nil, List.cons_append, zipSV, Nat.reduceAdd]
  refine awp_seq ?_
  refine rg ?_
  refine qp m_box ?_
  refine qp m_box ?_
  refine qv m_as ?_
  show AWp cx _ _ _
  refine awp_seq ?_
  refine rg ?_
  refine qv m_mv ?_
  refine qqF (f76 set hl) ?_
  refine qv m_as ?_
  show AWp cx _ _ _
  refine awp_seq ?_
  refine awp_block ?_
  refine awp_frz 3 ?_
  refine awp_loop (ι := List Int × List Int) (fun q => ⟨lk [(3, .pt 3 0 0), (4, .pt 4 0 0), (7, .sl 7 0 0 q.1.length)], mkM [(3, 0, some ⟨[.dv (.str nm), .dv (.fn ft [] []), .dv (.fn fn [] [])], 0, 77, 1, false⟩), (4, 0, some ⟨[.dv (i64 (y.places)), .dv (.list ((y.steps).map dStp))], 0, 24, 0, false⟩), (7, 0, some (rowI (q.1 ++ q.2)))]⟩) (fun q => great tc nd y q.1 = great tc nd y set ∧ q.1.Sublist set) (fun q => q.1.length) (set, []) ⟨rfl, List.Sublist.refl _⟩ (tl [(3, 3), (4, 4), (7, 11)] (hF := by simp [FLe, svLe, lk, mkM, isLive, tauL, rowK]) (hM := by simp [MLe, blkLe, svLe, svLes, lk, mkM, isLive, tauL, svLes_ints, svLes_self, isDvs, isDvs_map, isDvs_app, isDvs_take, isDvs_set, isDvs_repl, rowK])) ?_
  intro q hφ0
  refine awp_seq ?_
  refine awp_seq ?_
  refine rg ?_
  refine qv (m_ldpa sz77 ag77) ?_
  refine qv (m_ldpa sz24 ag24) ?_
  refine qv m_mv ?_
  refine qqF (f81 nm ft fn tc nd y q.1 ht hnd (fun s hs => (h1 s hs).sub hφ0.2) (fun s hs => (h2 s hs).sub hφ0.2) (by have := hφ0.2.length_le; omega) hy) ?_ (ha := (args_cons data_dv (args_cons data_dv (args_cons (data_intsP (L := q.1) (zs := q.2) (by simp only [mkM, reduceIte, Nat.reduceEqDiff] <;> rfl) trivial rfl rfl rfl (fun _ => trivial)) args_nil))))
  refine qv m_not ?_
  show AWp cx _ _ _
  refine cd (fun hc0 => ?_) (fun hc0 => ?_)
  · try simp at hc0
    refine awp_skip ?_
    show AWp cx _ _ _
    refine awp_block ?_
    refine awp_seq ?_
    refine rg ?_
    refine qv (m_fdp fd24_1) ?_
    refine qv (m_ldp sz22 ag22) ?_
    refine qv (m_len il22) ?_
    refine qv m_mv ?_
    show AWp cx _ _ _
    refine awp_block ?_
    refine awp_loop (ι := Nat × List Int × List Int) (fun r => ⟨lk [(3, .pt 3 0 0), (4, .pt 4 0 0), (7, .sl 7 0 0 r.2.1.length), (18, .dv (.list ((y.steps).map dStp))), (19, .dv (i64 ((y.steps.length : Int)))), (20, .dv (i64 (r.1 : Nat)))], mkM [(3, 0, some ⟨[.dv (.str nm), .dv (.fn ft [] []), .dv (.fn fn [] [])], 0, 77, 1, false⟩), (4, 0, some ⟨[.dv (i64 (y.places)), .dv (.list ((y.steps).map dStp))], 0, 24, 0, false⟩), (7, 0, some (rowI (r.2.1 ++ r.2.2)))]⟩) (fun r => (r.1 ≤ y.steps.length ∧ (y.steps.take r.1).foldl (stpG tc nd) q.1 = r.2.1 ∧ r.2.1.Sublist q.1)) (fun r => y.steps.length - r.1) (0, q.1, q.2) ⟨Nat.zero_le _, rfl, List.Sublist.refl _⟩ (tl [(3, 3), (4, 4), (7, 7)] (hF := by simp [FLe, svLe, lk, mkM, isLive, tauL, rowK]) (hM := by simp [MLe, blkLe, svLe, svLes, lk, mkM, isLive, tauL, svLes_ints, svLes_self, isDvs, isDvs_map, isDvs_app, isDvs_take, isDvs_set, isDvs_repl, rowK])) ?_
    intro r hφ1
    refine awp_seq ?_
    refine rg ?_
    refine qv m_lss ?_
    show AWp cx _ _ _
    refine awp_seq ?_
    refine cd (fun hc1 => ?_) (fun hc1 => ?_)
    · try simp at hc1
      refine awp_skip ?_
      show AWp cx _ _ _
      refine awp_seq ?_
      refine awp_block ?_
      refine awp_seq ?_
      refine rg ?_
      have hin : r.1 < y.steps.length := by omega
      obtain ⟨s, hgs⟩ : ∃ s, y.steps[r.1]? = some s := ⟨_, List.getElem?_eq_getElem hin⟩
      have hsm : s ∈ y.steps := List.mem_of_getElem? hgs
      have hsb := hφ1.2.2.trans hφ0.2
      have hsl := hsb.length_le
      first | refine qv (m_ixN el22 sz55) ?_ | refine qv (m_ix el22 sz55) ?_
      refine qv (m_lda sz55 ag55) ?_
      refine qp (m_al ze55) ?_
      refine qs (m_st sz55) ?_
      show AWp cx _ _ _
      refine awp_seq ?_
      refine rg ?_
      refine qv (m_fdp fd77_2) ?_
      refine qv (m_ldp sz75 ag75) ?_
      refine qv (m_ldpa sz55 ag55) ?_
      refine qqVA (hnd s hsm) ?_
      refine qv m_mv ?_
      refine qqF (f103 (nd s) r.2.1 ((h2 s hsm).sub hsb) (by omega)) ?_ (ha := (args_cons data_dv (args_cons (data_intsP (L := r.2.1) (zs := r.2.2) (by simp only [mkM, reduceIte, Nat.reduceEqDiff] <;> rfl) trivial rfl rfl rfl (fun _ => trivial)) args_nil)))
      refine qv m_not ?_
      show AWp cx _ _ _
      refine cd (fun hc2 => ?_) (fun hc2 => ?_)
      · try simp at hc2
        refine rg ?_
        refine qv m_mv ?_
        refine qfn ?_
        refine qqG (f107 r.2.1 r.2.2 108 [] [.cptr [.str nm, .fn ft [] [], .fn fn [] []], .cptr [ints s.take, ints s.give]] (fun p => decide (0 < sg (tc s) p.toNat)) (fun x hx => f108 nm ft fn tc s x (ht s hsm) (((h1 s hsm).sub hsb) x hx).1 (((h1 s hsm).sub hsb) x hx).2) (by omega)) [] [(100000, 7)] [7] ?_
        refine qv m_as ?_
        show AWp cx _ _ _
        refine rg ?_
        refine qv m_add ?_
        refine qv m_mv ?_
        exact ⟨(r.1 + 1, delF (fun p => decide (0 < sg (tc s) p.toNat)) r.2.1, List.replicate (r.2.1.length - (delF (fun p => decide (0 < sg (tc s) p.toNat)) r.2.1).length) 0 ++ r.2.2), ⟨hin, by rw [passG_at hgs, hφ1.2.1]; simp [stpG, hc2], delF_sub.trans hφ1.2.2⟩, (by simp only; omega), (tl [(3, 3), (4, 4), (7, 7)] (hF := by simp [FLe, svLe, lk, mkM, isLive, tauL, rowK, List.append_assoc]) (hM := by simp [MLe, blkLe, svLe, svLes, lk, mkM, isLive, tauL, svLes_ints, svLes_self, isDvs, isDvs_map, isDvs_app, isDvs_take, isDvs_set, isDvs_repl, rowK, List.append_assoc]))⟩
      · try simp at hc2
        refine awp_skip ?_
        show AWp cx _ _ _
        refine rg ?_
        refine qv m_add ?_
        refine qv m_mv ?_
        exact ⟨(r.1 + 1, r.2.1, r.2.2), ⟨hin, by rw [passG_at hgs, hφ1.2.1]; simp [stpG, hc2], hφ1.2.2⟩, (by simp only; omega), (tl [(3, 3), (4, 4), (7, 7)] (hF := by simp [FLe, svLe, lk, mkM, isLive, tauL, rowK, List.append_assoc]) (hM := by simp [MLe, blkLe, svLe, svLes, lk, mkM, isLive, tauL, svLes_ints, svLes_self, isDvs, isDvs_map, isDvs_app, isDvs_take, isDvs_set, isDvs_repl, rowK, List.append_assoc]))⟩
    · try simp at hc1
      refine awp_exit ?_
      refine ⟨(r.2.1, r.2.2), ?_, (by
        have e : r.2.1 = passG tc nd y q.1 := by
          rw [← hφ1.2.1, List.take_of_length_le (by omega)]; rfl
        simp only [e]; exact passG_lt (by simp [hc0])), (tl [(3, 3), (4, 4), (7, 7)] (hF := by simp [FLe, svLe, lk, mkM, isLive, tauL, rowK]) (hM := by simp [MLe, blkLe, svLe, svLes, lk, mkM, isLive, tauL, svLes_ints, svLes_self, isDvs, isDvs_map, isDvs_app, isDvs_take, isDvs_set, isDvs_repl, rowK]))⟩
      have e : r.2.1 = passG tc nd y q.1 := by
        rw [← hφ1.2.1, List.take_of_length_le (by omega)]; rfl
      exact ⟨by simp only [e]; rw [← great_no (by simp [hc0])]; exact hφ0.1, hφ1.2.2.trans hφ0.2⟩
  · try simp at hc0
    refine awp_exit ?_
    show AWp cx _ _ _
    refine awp_seq ?_
    refine rg ?_
    refine qv m_mv ?_
    refine qv m_as ?_
    show AWp cx _ _ _
    refine awp_ret ?_
    rw [← hφ0.1, great_yes (by simpa using hc0)]
    exact x1 (hr := data_intsP (L := q.1) (zs := q.2) (by simp only [mkM, reduceIte, Nat.reduceEqDiff] <;> rfl) trivial rfl rfl rfl (fun _ => .int _ _))

end Go.Ab.Try
