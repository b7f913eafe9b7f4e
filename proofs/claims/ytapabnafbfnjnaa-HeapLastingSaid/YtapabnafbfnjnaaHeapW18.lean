/- The functions of the heap laws, part W18. The walks are written by wip/gen/gw.py. -/
import Derived.Test.YtapabnafbfnjnaaHeap21
import Derived.Test.YtapabnafbfnjnaaHeap18
import Derived.Test.YtapabnafbfnjnaaHeapLA
import Derived.Test.YtapabnafbfnjnaaHeapPT
import Derived.Test.YtapabnafbfnjnaaHeapFacts
import Derived.Test.YtapabnafbfnjnaaHeapPT
set_option linter.all false
namespace Go.Ab.Try
open Go Go.Ab Go.Proofs Go.Ab.Heap

theorem lastR_len {h : Hp} {a : List Int} : (lastR h a).1.length < 1000000 := by
  unfold lastR
  split
  · simp
  · rename_i e
    have v5 := (check1 (Classical.not_not.1 e)).1.n5
    have := last_len (h := h) (a := a)
    dsimp only; omega
theorem last_check {h : Hp} {a : List Int} (e : (lastR h a).2 = 0) : checkE h [a] = 0 := by
  unfold lastR at e
  split at e
  · rename_i c; exact absurd e c
  · rename_i c; exact Classical.not_not.1 c
theorem hpg30_last {h : Hp} (v : VH h) {a : List Int} (ha : Hpg h a) : Hpg30 h (lastL h a) := .ofCalm v (last_spec v ha).1 (last_spec v ha).2.1.1
theorem lasting_one {h : Hp} {a : List Int} (e : (lastR h a).2 = 0) : lastsR h (lastR h a).1 = (true, 0) ∧ alikeR h a (lastR h a).1 = (true, 0) ∧ lastR h (lastR h a).1 = ((lastR h a).1, 0) := by
  have hc := last_check e
  obtain ⟨v, x⟩ := check1 hc
  have hv := val_of_check hc
  obtain ⟨s1, s2, s3⟩ := last_spec v x.hpg
  have y := hpg30_last v x.hpg
  rw [last_ok hc]
  dsimp only
  rw [lasts_ok (check_of1 hv y), alike_ok (check_of2 hv x y), last_ok (check_of1 hv y), last_rec v s1 s2, (lastsD_iff v).2 s2, beq_self_eq_true]
  exact ⟨rfl, rfl, rfl⟩


set_option maxHeartbeats 4000000 in
theorem f18 (h : Hp) (hk : h.links.length ≤ 9223372036854775807) (a : List Int) : ACallsF Try.prog 18 [dHp h, ints a] (.one (.dv (.bool true))) := by
  refine callsF_of Try.func18 rfl rfl (by rw [Try.ntmps18]; simp) fun cx hP hn hg => ?_
  rw [Try.ntmps18] at hn
  rw [startF_lk, none_mkM]
  simp only [List.nil_append, List.append_nil, List.cons_append, zipSV, Nat.reduceAdd]
  refine awp_seq ?_
  refine rg ?_
  refine qp m_box ?_
  refine qv m_as ?_
  show AWp cx _ _ _
  refine awp_seq ?_
  refine awp_seq ?_
  refine rg ?_
  refine qv (m_ldpa sz25 ag25) ?_
  refine qv m_mv ?_
  refine qr (m_bsl el22 ze23 sz23) ?_
  refine qqF (f21 h [a] (by simp) hk) ?_ (ha := (args_cons data_dv (args_cons (data_rows (L := [a]) (by simp only [mkM, reduceIte, Nat.reduceEqDiff] <;> rfl) trivial rfl (fun _ => trivial)) args_nil)))
  show AWp cx _ _ _
  refine cd (fun hc0 => ?_) (fun hc0 => ?_)
  · skip
    refine awp_seq ?_
    refine rg ?_
    refine qqF (f29) ?_
    refine qv m_as ?_
    show AWp cx _ _ _
    refine awp_ret ?_
    exact x1 (hr := (rB_))
  · skip
    have hlg : longB h [a] = false := by simpa using hc0
    have hla := long_args hlg
    
    refine awp_skip ?_
    show AWp cx _ _ _
    refine awp_seq ?_
    refine rg ?_
    refine qv (m_ldpa sz25 ag25) ?_
    refine qv m_mv ?_
    refine qqF (f22 h a) ?_
    refine qv m_mv ?_
    refine qv m_ext ?_
    refine qv m_ext ?_
    refine qv m_as ?_
    refine qv m_as ?_
    show AWp cx _ _ _
    refine awp_seq ?_
    refine rg ?_
    refine qv (m_ldpa sz25 ag25) ?_
    refine qv m_mv ?_
    refine qqF (f58 h a) ?_
    refine qv m_mv ?_
    refine qv m_ext ?_
    refine qv m_ext ?_
    refine qv m_as ?_
    refine qv m_as ?_
    show AWp cx _ _ _
    refine awp_seq ?_
    refine awp_seq ?_
    refine rg ?_
    refine qv m_mv ?_
    refine qv m_mv ?_
    refine qqF (f27 (lastR h a).1 (lastR h a).1 lastR_len) ?_ (ha := (args_cons (data_ints (L := (lastR h a).1) (by simp only [mkM, reduceIte, Nat.reduceEqDiff] <;> rfl) trivial (by first | rfl | omega | (simp; done) | (simp; omega)) rfl rfl (fun _ => trivial)) (args_cons (data_ints (L := (lastR h a).1) (by simp only [mkM, reduceIte, Nat.reduceEqDiff] <;> rfl) trivial (by first | rfl | omega | (simp; done) | (simp; omega)) rfl rfl (fun _ => trivial)) args_nil)))
    refine qv m_not ?_
    refine qx m_mv (fun hg36 => ?_) (fun hg36 => ?_)
    · exact absurd hg36 (by simp)
    refine qv m_mv ?_
    refine qv m_mv ?_
    refine qv m_neq ?_
    refine qv m_pk ?_
    show AWp cx _ _ _
    refine cdF (hb := by simp) (ht := ?_)
    refine awp_skip ?_
    show AWp cx _ _ _
    refine awp_seq ?_
    refine awp_seq ?_
    refine rg ?_
    refine qv m_mv ?_
    refine qv m_neq ?_
    show AWp cx _ _ _
    refine cd (fun hc2 => ?_) (fun hc2 => ?_)
    · skip
      refine awp_seq ?_
      refine rg ?_
      refine qqF (f29) ?_
      refine qv m_as ?_
      show AWp cx _ _ _
      refine awp_ret ?_
      exact x1 (hr := (rB_))
    · skip
      obtain ⟨l1, l2, l3⟩ := lasting_one (h := h) (a := a) (by simpa using hc2)
      refine awp_skip ?_
      show AWp cx _ _ _
      refine awp_seq ?_
      refine rg ?_
      refine qv (m_ldpa sz25 ag25) ?_
      refine qv m_mv ?_
      refine qqF (f51 h (lastR h a).1) ?_ (ha := (args_cons data_dv (args_cons (data_ints (L := (lastR h a).1) (by simp only [mkM, reduceIte, Nat.reduceEqDiff] <;> rfl) trivial (by first | rfl | omega | (simp; done) | (simp; omega)) rfl rfl (fun _ => trivial)) args_nil)))
      refine qv m_mv ?_
      refine qv m_ext ?_
      refine qv m_ext ?_
      refine qv m_as ?_
      refine qv m_as ?_
      show AWp cx _ _ _
      refine awp_seq ?_
      refine rg ?_
      refine qv (m_ldpa sz25 ag25) ?_
      refine qv m_mv ?_
      refine qv m_mv ?_
      refine qqF (f23 h a (lastR h a).1) ?_ (ha := (args_cons data_dv (args_cons data_dv (args_cons (data_ints (L := (lastR h a).1) (by simp only [mkM, reduceIte, Nat.reduceEqDiff] <;> rfl) trivial (by first | rfl | omega | (simp; done) | (simp; omega)) rfl rfl (fun _ => trivial)) args_nil))))
      refine qv m_mv ?_
      refine qv m_ext ?_
      refine qv m_ext ?_
      refine qv m_as ?_
      refine qv m_as ?_
      show AWp cx _ _ _
      refine awp_seq ?_
      refine rg ?_
      refine qv (m_ldpa sz25 ag25) ?_
      refine qv m_mv ?_
      refine qqF (f22 h (lastR h a).1) ?_ (ha := (args_cons data_dv (args_cons (data_ints (L := (lastR h a).1) (by simp only [mkM, reduceIte, Nat.reduceEqDiff] <;> rfl) trivial (by first | rfl | omega | (simp; done) | (simp; omega)) rfl rfl (fun _ => trivial)) args_nil)))
      refine qv m_mv ?_
      refine qv m_ext ?_
      refine qv m_ext ?_
      refine qv m_as ?_
      refine qv m_as ?_
      show AWp cx _ _ _
      refine awp_seq ?_
      refine rg ?_
      refine qv m_mv ?_
      refine qv m_eql ?_
      refine qx m_mv (fun hg65 => ?_) (fun hg65 => ?_)
      rotate_left
      · exact absurd hg65 (by simp [l1])
      refine qv m_mv ?_
      refine qv m_pk ?_
      refine qx m_mv (fun hg68 => ?_) (fun hg68 => ?_)
      rotate_left
      · exact absurd hg68 (by simp [l1])
      refine qv m_mv ?_
      refine qv m_eql ?_
      refine qv m_pk ?_
      refine qx m_mv (fun hg72 => ?_) (fun hg72 => ?_)
      rotate_left
      · exact absurd hg72 (by simp [l2])
      refine qv m_mv ?_
      refine qv m_pk ?_
      refine qx m_mv (fun hg75 => ?_) (fun hg75 => ?_)
      rotate_left
      · exact absurd hg75 (by simp [l2])
      refine qv m_mv ?_
      refine qv m_eql ?_
      refine qv m_pk ?_
      refine qx m_mv (fun hg79 => ?_) (fun hg79 => ?_)
      rotate_left
      · exact absurd hg79 (by simp [l3])
      refine qv m_mv ?_
      refine qv m_mv ?_
      refine qqF (f27 (lastR h (lastR h a).1).1 (lastR h a).1 lastR_len) ?_ (ha := (args_cons (data_ints (L := (lastR h (lastR h a).1).1) (by simp only [mkM, reduceIte, Nat.reduceEqDiff] <;> rfl) trivial (by first | rfl | omega | (simp; done) | (simp; omega)) rfl rfl (fun _ => trivial)) (args_cons (data_ints (L := (lastR h a).1) (by simp only [mkM, reduceIte, Nat.reduceEqDiff] <;> rfl) trivial (by first | rfl | omega | (simp; done) | (simp; omega)) rfl rfl (fun _ => trivial)) args_nil)))
      refine qv m_pk ?_
      refine qx m_mv (fun hg84 => ?_) (fun hg84 => ?_)
      rotate_left
      · exact absurd hg84 (by simp [l3])
      refine qqF (f29) ?_
      refine qv m_pk ?_
      refine qv m_as ?_
      show AWp cx _ _ _
      refine awp_ret ?_
      exact x1 (hr := (rB_))

end Go.Ab.Try
