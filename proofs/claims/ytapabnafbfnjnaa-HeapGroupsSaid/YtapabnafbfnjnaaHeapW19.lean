/- The functions of the heap laws, part W19. The walks are written by wip/gen/gw.py. -/
import Derived.Test.YtapabnafbfnjnaaHeap21
import Derived.Test.YtapabnafbfnjnaaHeap18
import Derived.Test.YtapabnafbfnjnaaHeapLA
import Derived.Test.YtapabnafbfnjnaaHeapPT
import Derived.Test.YtapabnafbfnjnaaHeapFacts
import Derived.Test.YtapabnafbfnjnaaHeapPT
set_option linter.all false
namespace Go.Ab.Try
open Go Go.Ab Go.Proofs Go.Ab.Heap

theorem lastR_len {h : Hp} {a : List Int} : (lastR h a).1.length < 1000000 := by
  unfold lastR
  split
  · simp
  · rename_i e
    have v5 := (check1 (Classical.not_not.1 e)).1.n5
    have := last_len (h := h) (a := a)
    dsimp only; omega
theorem zeroR_len {h : Hp} : (zeroR h).1.length < 1000000 := by
  unfold zeroR
  split
  · simp
  · rename_i e
    have v5 := (vh_of (Classical.not_not.1 e)).n5
    have := last_len (h := h) (a := nil0 h)
    show (zeroL h).length < 1000000
    unfold zeroL; omega
theorem backR_len {h : Hp} {a : List Int} : (backR h a).1.length < 1000000 := by
  unfold backR
  split
  · simp
  · rename_i e
    have v5 := (check1 (Classical.not_not.1 e)).1.n5
    have := last_len (h := h) (a := lessL h a)
    split
    · dsimp only; omega
    · simp
theorem last_check {h : Hp} {a : List Int} (e : (lastR h a).2 = 0) : checkE h [a] = 0 := by
  unfold lastR at e
  split at e
  · rename_i c; exact absurd e c
  · rename_i c; exact Classical.not_not.1 c
theorem hpg30_last {h : Hp} (v : VH h) {a : List Int} (ha : Hpg h a) : Hpg30 h (lastL h a) := .ofCalm v (last_spec v ha).1 (last_spec v ha).2.1.1
theorem lasting_one {h : Hp} {a : List Int} (e : (lastR h a).2 = 0) : lastsR h (lastR h a).1 = (true, 0) ∧ alikeR h a (lastR h a).1 = (true, 0) ∧ lastR h (lastR h a).1 = ((lastR h a).1, 0) := by
  have hc := last_check e
  obtain ⟨v, x⟩ := check1 hc
  have hv := val_of_check hc
  obtain ⟨s1, s2, s3⟩ := last_spec v x.hpg
  have y := hpg30_last v x.hpg
  rw [last_ok hc]
  dsimp only
  rw [lasts_ok (check_of1 hv y), alike_ok (check_of2 hv x y), last_ok (check_of1 hv y), last_rec v s1 s2, (lastsD_iff v).2 s2, beq_self_eq_true]
  exact ⟨rfl, rfl, rfl⟩
theorem half_of_last {h : Hp} (v : VH h) {a : List Int} (ha : Hpg h a) : Hpg h (lastL h a) := (last_spec v ha).1
theorem groups {h : Hp} {a b : List Int} (e : (lastR h a).2 = 0) (f : (lastR h b).2 = 0) :
    (addR h (lastR h a).1 (lastR h b).1).2 = 0 ∧ lastsR h (addR h (lastR h a).1 (lastR h b).1).1 = (true, 0) ∧
    addR h (lastR h a).1 (zeroR h).1 = ((lastR h a).1, 0) ∧ (backR h (lastR h a).1).2 = 0 ∧
    addR h (lastR h a).1 (backR h (lastR h a).1).1 = ((zeroR h).1, 0) ∧
    addR h (addR h (lastR h a).1 (lastR h b).1).1 (backR h (lastR h a).1).1 = ((lastR h b).1, 0) := by
  have hc := last_check e
  have hd := last_check f
  obtain ⟨v, x⟩ := check1 hc
  obtain ⟨_, y⟩ := check1 hd
  have hv := val_of_check hc
  rw [last_ok hc, last_ok hd, zero_ok hv]
  dsimp only
  have x3 := hpg30_last v x.hpg
  have y3 := hpg30_last v y.hpg
  obtain ⟨p1, p2, _⟩ := last_spec v x.hpg
  obtain ⟨q1, q2, _⟩ := last_spec v y.hpg
  have pc := p2.1
  generalize lastL h a = p at x3 p1 p2 pc ⊢
  generalize lastL h b = q at y3 q1 q2 ⊢
  have zh := zero_hpg v
  have zr := zero_rec v
  have za := zero_alike v
  have z3 : Hpg30 h (zeroL h) := .ofCalm v zh zr.1
  rw [add_ok (check_of2 hv x3 y3), add_ok (check_of2 hv x3 z3), back_ok (check_of1 hv x3) ((lastsD_iff v).2 p2)]
  dsimp only
  have lh := (less_half v p1 pc).hpg
  obtain ⟨b1, b2, b3⟩ := last_spec v lh
  have bk3 := hpg30_last v lh
  have ba : h.sp.Alike (ata (lastL h (lessL h p))) fun i => (-1) * ata p i := alike_trans (alike_symm b3) (less_alike v p)
  generalize lastL h (lessL h p) = k at b1 b2 bk3 ba ⊢
  have sh := addL_hpg p1 q1
  have sr : Rec h (stl h (addL h p q)) := rec_add v p1 p2 q1
  have s3 := hpg30_stl v sh
  have sg := stl_hpg v sh
  rw [lasts_ok (check_of1 hv s3), (lastsD_iff v).2 sr, add_ok (check_of2 hv x3 bk3), add_ok (check_of2 hv s3 bk3)]
  have add_al : ∀ {m n : List Int}, Hpg h m → Hpg h n → h.sp.Alike (fun i => ata m i + ata n i) (ata (stl h (addL h m n))) := fun hm hn => alike_trans (alike_congr (fun _ _ => rfl) (fun i hi => (addL_at hi).symm) (alike_refl _)) (stl_alike v (addL_hpg hm hn))
  refine ⟨rfl, rfl, ?_, rfl, ?_, ?_⟩
  · refine congrArg (·, (0 : Int)) (rec_unique v (stl_hpg v (addL_hpg p1 zh)) p1 (rec_add v p1 p2 zh) p2 (alike_trans (alike_symm (add_al p1 zh)) ?_))
    have := alike_add (alike_refl (s := h.sp) (ata p)) za
    exact alike_congr (fun _ _ => rfl) (fun i _ => by (try dsimp only); omega) this
  · refine congrArg (·, (0 : Int)) (rec_unique v (stl_hpg v (addL_hpg p1 b1)) zh (rec_add v p1 p2 b1) zr (alike_trans (alike_symm (add_al p1 b1)) ?_))
    refine alike_trans ?_ (alike_symm za)
    have := alike_add (alike_refl (s := h.sp) (ata p)) ba
    exact alike_congr (fun _ _ => rfl) (fun i _ => by (try dsimp only); omega) this
  · refine congrArg (·, (0 : Int)) (rec_unique v (stl_hpg v (addL_hpg sg b1)) q1 (rec_add v sg sr b1) q2 (alike_trans (alike_symm (add_al sg b1)) ?_))
    have h1 := alike_add (alike_symm (add_al p1 q1)) ba
    exact alike_congr (fun _ _ => rfl) (fun i _ => by (try dsimp only); omega) h1


set_option maxHeartbeats 4000000 in
theorem f19 (h : Hp) (hk : h.links.length ≤ 9223372036854775807) (a b : List Int) : ACallsF Try.prog 19 [dHp h, ints a, ints b] (.one (.dv (.bool true))) := by
  refine callsF_of Try.func19 rfl rfl (by rw [Try.ntmps19]; simp) fun cx hP hn hg => ?_
  rw [Try.ntmps19] at hn
  rw [startF_lk, none_mkM]
  simp only [List.nil_append, List.append_nil, List.cons_append, zipSV, Nat.reduceAdd]
  refine awp_seq ?_
  refine rg ?_
  refine qp m_box ?_
  refine qv m_as ?_
  show AWp cx _ _ _
  refine awp_seq ?_
  refine awp_seq ?_
  refine rg ?_
  refine qv (m_ldpa sz25 ag25) ?_
  refine qv m_mv ?_
  refine qv m_mv ?_
  refine qr (m_bsl el22 ze23 sz23) ?_
  refine qqF (f21 h [a, b] (by simp) hk) ?_ (ha := (args_cons data_dv (args_cons (data_rows (L := [a, b]) (by simp only [mkM, reduceIte, Nat.reduceEqDiff] <;> rfl) trivial rfl (fun _ => trivial)) args_nil)))
  show AWp cx _ _ _
  refine cd (fun hc0 => ?_) (fun hc0 => ?_)
  · skip
    refine awp_seq ?_
    refine rg ?_
    refine qqF (f29) ?_
    refine qv m_as ?_
    show AWp cx _ _ _
    refine awp_ret ?_
    exact x1 (hr := (rB_))
  · skip
    have hlg : longB h [a, b] = false := by simpa using hc0
    have hla := long_args hlg
    
    refine awp_skip ?_
    show AWp cx _ _ _
    refine awp_seq ?_
    refine rg ?_
    refine qv (m_ldpa sz25 ag25) ?_
    refine qv m_mv ?_
    refine qqF (f22 h a) ?_
    refine qv m_mv ?_
    refine qv m_ext ?_
    refine qv m_ext ?_
    refine qv m_as ?_
    refine qv m_as ?_
    show AWp cx _ _ _
    refine awp_seq ?_
    refine rg ?_
    refine qv (m_ldpa sz25 ag25) ?_
    refine qv m_mv ?_
    refine qqF (f22 h b) ?_
    refine qv m_mv ?_
    refine qv m_ext ?_
    refine qv m_ext ?_
    refine qv m_as ?_
    refine qv m_as ?_
    show AWp cx _ _ _
    refine awp_seq ?_
    refine rg ?_
    refine qv (m_ldpa sz25 ag25) ?_
    refine qqF (f32 h) ?_
    refine qv m_mv ?_
    refine qv m_ext ?_
    refine qv m_ext ?_
    refine qv m_as ?_
    refine qv m_as ?_
    show AWp cx _ _ _
    refine awp_seq ?_
    refine awp_seq ?_
    refine rg ?_
    refine qv m_mv ?_
    refine qv m_neq ?_
    refine qx m_mv (fun hg50 => ?_) (fun hg50 => ?_)
    · skip
      refine qk ?_
      refine qk ?_
      refine qv m_pk ?_
      refine qv m_mv ?_
      refine qk ?_
      refine qk ?_
      refine qv m_pk ?_
      show AWp cx _ _ _
      refine cdT (hb := by first | rfl | simp | simp_all) (ht := ?_)
      refine awp_seq ?_
      refine rg ?_
      refine qqF (f29) ?_
      refine qv m_as ?_
      show AWp cx _ _ _
      refine awp_ret ?_
      exact x1 (hr := (rB_))
    · skip
      refine qv m_mv ?_
      refine qv m_neq ?_
      refine qv m_pk ?_
      refine qx m_mv (fun hg54 => ?_) (fun hg54 => ?_)
      · skip
        refine qk ?_
        refine qk ?_
        refine qv m_pk ?_
        show AWp cx _ _ _
        refine cdT (hb := by first | rfl | simp | simp_all) (ht := ?_)
        refine awp_seq ?_
        refine rg ?_
        refine qqF (f29) ?_
        refine qv m_as ?_
        show AWp cx _ _ _
        refine awp_ret ?_
        exact x1 (hr := (rB_))
      · skip
        refine qv m_mv ?_
        refine qv m_neq ?_
        refine qv m_pk ?_
        show AWp cx _ _ _
        refine cd (fun hc1 => ?_) (fun hc1 => ?_)
        · skip
          refine awp_seq ?_
          refine rg ?_
          refine qqF (f29) ?_
          refine qv m_as ?_
          show AWp cx _ _ _
          refine awp_ret ?_
          exact x1 (hr := (rB_))
        · skip
          obtain ⟨g1, g2, g3, g4, g5, g6⟩ := groups (h := h) (a := a) (b := b) (by simpa using hg50) (by simpa using hg54)
          refine awp_skip ?_
          show AWp cx _ _ _
          refine awp_seq ?_
          refine rg ?_
          refine qv (m_ldpa sz25 ag25) ?_
          refine qv m_mv ?_
          refine qv m_mv ?_
          refine qqF (f34 h (lastR h a).1 (lastR h b).1) ?_ (ha := (args_cons data_dv (args_cons (data_ints (L := (lastR h a).1) (by simp only [mkM, reduceIte, Nat.reduceEqDiff] <;> rfl) trivial (by first | rfl | omega | (simp; done) | (simp; omega)) rfl rfl (fun _ => trivial)) (args_cons (data_ints (L := (lastR h b).1) (by simp only [mkM, reduceIte, Nat.reduceEqDiff] <;> rfl) trivial (by first | rfl | omega | (simp; done) | (simp; omega)) rfl rfl (fun _ => trivial)) args_nil))))
          refine qv m_mv ?_
          refine qv m_ext ?_
          refine qv m_ext ?_
          refine qv m_as ?_
          refine qv m_as ?_
          show AWp cx _ _ _
          refine awp_seq ?_
          refine rg ?_
          refine qv (m_ldpa sz25 ag25) ?_
          refine qv m_mv ?_
          refine qqF (f51 h (addR h (lastR h a).1 (lastR h b).1).1) ?_ (ha := (args_cons data_dv (args_cons (data_ints (L := (addR h (lastR h a).1 (lastR h b).1).1) (by simp only [mkM, reduceIte, Nat.reduceEqDiff] <;> rfl) trivial (by first | rfl | omega | (simp; done) | (simp; omega)) rfl rfl (fun _ => trivial)) args_nil)))
          refine qv m_mv ?_
          refine qv m_ext ?_
          refine qv m_ext ?_
          refine qv m_as ?_
          refine qv m_as ?_
          show AWp cx _ _ _
          refine awp_seq ?_
          refine rg ?_
          refine qv (m_ldpa sz25 ag25) ?_
          refine qv m_mv ?_
          refine qv m_mv ?_
          refine qqF (f34 h (lastR h a).1 (zeroR h).1) ?_ (ha := (args_cons data_dv (args_cons (data_ints (L := (lastR h a).1) (by simp only [mkM, reduceIte, Nat.reduceEqDiff] <;> rfl) trivial (by first | rfl | omega | (simp; done) | (simp; omega)) rfl rfl (fun _ => trivial)) (args_cons (data_ints (L := (zeroR h).1) (by simp only [mkM, reduceIte, Nat.reduceEqDiff] <;> rfl) trivial (by first | rfl | omega | (simp; done) | (simp; omega)) rfl rfl (fun _ => trivial)) args_nil))))
          refine qv m_mv ?_
          refine qv m_ext ?_
          refine qv m_ext ?_
          refine qv m_as ?_
          refine qv m_as ?_
          show AWp cx _ _ _
          refine awp_seq ?_
          refine rg ?_
          refine qv (m_ldpa sz25 ag25) ?_
          refine qv m_mv ?_
          refine qqF (f54 h (lastR h a).1) ?_ (ha := (args_cons data_dv (args_cons (data_ints (L := (lastR h a).1) (by simp only [mkM, reduceIte, Nat.reduceEqDiff] <;> rfl) trivial (by first | rfl | omega | (simp; done) | (simp; omega)) rfl rfl (fun _ => trivial)) args_nil)))
          refine qv m_mv ?_
          refine qv m_ext ?_
          refine qv m_ext ?_
          refine qv m_as ?_
          refine qv m_as ?_
          show AWp cx _ _ _
          refine awp_seq ?_
          refine rg ?_
          refine qv (m_ldpa sz25 ag25) ?_
          refine qv m_mv ?_
          refine qv m_mv ?_
          refine qqF (f34 h (lastR h a).1 (backR h (lastR h a).1).1) ?_ (ha := (args_cons data_dv (args_cons (data_ints (L := (lastR h a).1) (by simp only [mkM, reduceIte, Nat.reduceEqDiff] <;> rfl) trivial (by first | rfl | omega | (simp; done) | (simp; omega)) rfl rfl (fun _ => trivial)) (args_cons (data_ints (L := (backR h (lastR h a).1).1) (by simp only [mkM, reduceIte, Nat.reduceEqDiff] <;> rfl) trivial (by first | rfl | omega | (simp; done) | (simp; omega)) rfl rfl (fun _ => trivial)) args_nil))))
          refine qv m_mv ?_
          refine qv m_ext ?_
          refine qv m_ext ?_
          refine qv m_as ?_
          refine qv m_as ?_
          show AWp cx _ _ _
          refine awp_seq ?_
          refine rg ?_
          refine qv (m_ldpa sz25 ag25) ?_
          refine qv m_mv ?_
          refine qv m_mv ?_
          refine qqF (f34 h (addR h (lastR h a).1 (lastR h b).1).1 (backR h (lastR h a).1).1) ?_ (ha := (args_cons data_dv (args_cons (data_ints (L := (addR h (lastR h a).1 (lastR h b).1).1) (by simp only [mkM, reduceIte, Nat.reduceEqDiff] <;> rfl) trivial (by first | rfl | omega | (simp; done) | (simp; omega)) rfl rfl (fun _ => trivial)) (args_cons (data_ints (L := (backR h (lastR h a).1).1) (by simp only [mkM, reduceIte, Nat.reduceEqDiff] <;> rfl) trivial (by first | rfl | omega | (simp; done) | (simp; omega)) rfl rfl (fun _ => trivial)) args_nil))))
          refine qv m_mv ?_
          refine qv m_ext ?_
          refine qv m_ext ?_
          refine qv m_as ?_
          refine qv m_as ?_
          show AWp cx _ _ _
          refine awp_seq ?_
          refine rg ?_
          refine qv m_mv ?_
          refine qv m_eql ?_
          refine qx m_mv (fun hg101 => ?_) (fun hg101 => ?_)
          rotate_left
          · exact absurd hg101 (by simp [g1])
          refine qv m_mv ?_
          refine qv m_eql ?_
          refine qv m_pk ?_
          refine qx m_mv (fun hg105 => ?_) (fun hg105 => ?_)
          rotate_left
          · exact absurd hg105 (by simp [g2])
          refine qv m_mv ?_
          refine qv m_pk ?_
          refine qx m_mv (fun hg108 => ?_) (fun hg108 => ?_)
          rotate_left
          · exact absurd hg108 (by simp [g2])
          refine qv m_mv ?_
          refine qv m_eql ?_
          refine qv m_pk ?_
          refine qx m_mv (fun hg112 => ?_) (fun hg112 => ?_)
          rotate_left
          · exact absurd hg112 (by simp [g3])
          refine qv m_mv ?_
          refine qv m_mv ?_
          refine qqF (f27 (addR h (lastR h a).1 (zeroR h).1).1 (lastR h a).1 addR_len) ?_ (ha := (args_cons (data_ints (L := (addR h (lastR h a).1 (zeroR h).1).1) (by simp only [mkM, reduceIte, Nat.reduceEqDiff] <;> rfl) trivial (by first | rfl | omega | (simp; done) | (simp; omega)) rfl rfl (fun _ => trivial)) (args_cons (data_ints (L := (lastR h a).1) (by simp only [mkM, reduceIte, Nat.reduceEqDiff] <;> rfl) trivial (by first | rfl | omega | (simp; done) | (simp; omega)) rfl rfl (fun _ => trivial)) args_nil)))
          refine qv m_pk ?_
          refine qx m_mv (fun hg117 => ?_) (fun hg117 => ?_)
          rotate_left
          · exact absurd hg117 (by simp [g3])
          refine qv m_mv ?_
          refine qv m_eql ?_
          refine qv m_pk ?_
          refine qx m_mv (fun hg121 => ?_) (fun hg121 => ?_)
          rotate_left
          · exact absurd hg121 (by simp [g4])
          refine qv m_mv ?_
          refine qv m_eql ?_
          refine qv m_pk ?_
          refine qx m_mv (fun hg125 => ?_) (fun hg125 => ?_)
          rotate_left
          · exact absurd hg125 (by simp [g5])
          refine qv m_mv ?_
          refine qv m_mv ?_
          refine qqF (f27 (addR h (lastR h a).1 (backR h (lastR h a).1).1).1 (zeroR h).1 addR_len) ?_ (ha := (args_cons (data_ints (L := (addR h (lastR h a).1 (backR h (lastR h a).1).1).1) (by simp only [mkM, reduceIte, Nat.reduceEqDiff] <;> rfl) trivial (by first | rfl | omega | (simp; done) | (simp; omega)) rfl rfl (fun _ => trivial)) (args_cons (data_ints (L := (zeroR h).1) (by simp only [mkM, reduceIte, Nat.reduceEqDiff] <;> rfl) trivial (by first | rfl | omega | (simp; done) | (simp; omega)) rfl rfl (fun _ => trivial)) args_nil)))
          refine qv m_pk ?_
          refine qx m_mv (fun hg130 => ?_) (fun hg130 => ?_)
          rotate_left
          · exact absurd hg130 (by simp [g5])
          refine qv m_mv ?_
          refine qv m_eql ?_
          refine qv m_pk ?_
          refine qx m_mv (fun hg134 => ?_) (fun hg134 => ?_)
          rotate_left
          · exact absurd hg134 (by simp [g6])
          refine qv m_mv ?_
          refine qv m_mv ?_
          refine qqF (f27 (addR h (addR h (lastR h a).1 (lastR h b).1).1 (backR h (lastR h a).1).1).1 (lastR h b).1 addR_len) ?_ (ha := (args_cons (data_ints (L := (addR h (addR h (lastR h a).1 (lastR h b).1).1 (backR h (lastR h a).1).1).1) (by simp only [mkM, reduceIte, Nat.reduceEqDiff] <;> rfl) trivial (by first | rfl | omega | (simp; done) | (simp; omega)) rfl rfl (fun _ => trivial)) (args_cons (data_ints (L := (lastR h b).1) (by simp only [mkM, reduceIte, Nat.reduceEqDiff] <;> rfl) trivial (by first | rfl | omega | (simp; done) | (simp; omega)) rfl rfl (fun _ => trivial)) args_nil)))
          refine qv m_pk ?_
          refine qx m_mv (fun hg139 => ?_) (fun hg139 => ?_)
          rotate_left
          · exact absurd hg139 (by simp [g6])
          refine qqF (f29) ?_
          refine qv m_pk ?_
          refine qv m_as ?_
          show AWp cx _ _ _
          refine awp_ret ?_
          exact x1 (hr := (rB_))

end Go.Ab.Try
