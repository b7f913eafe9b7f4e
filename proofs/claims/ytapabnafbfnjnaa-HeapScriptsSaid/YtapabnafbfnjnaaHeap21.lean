/- The functions of the heap laws, part 21. The walks are written by wip/gen/gw.py. -/
import Derived.Test.YtapabnafbfnjnaaHeap16
import Derived.Test.YtapabnafbfnjnaaHeap15
import Derived.Test.YtapabnafbfnjnaaHeapM2
import Derived.Test.YtapabnafbfnjnaaHeapFacts
import Derived.Test.YtapabnafbfnjnaaHeapPT
set_option linter.all false
namespace Go.Ab.Try
open Go Go.Ab Go.Proofs Go.Ab.Heap
def H2 : Hp := ⟨[[0, 1], [1, 0]], [1, 1]⟩
theorem v2 : validate H2 = 0 := by decide +kernel
theorem vh2 : VH H2 := vh_of v2
theorem lap2 (u : Nat → Int) (i : Nat) (hi : i < 2) : H2.sp.lap u i = 2 * u i - u (1 - i) := by
  have : i = 0 ∨ i = 1 := by omega
  rcases this with rfl | rfl <;> simp [SP.lap, Hp.sp, H2, sm, gnd, lnk, lrow] <;> omega
theorem calm2 : calmB H2 [1, 1] := fun i hi => by
  have : i = 0 ∨ i = 1 := by have : H2.ground.length = 2 := rfl
                             omega
  rcases this with rfl | rfl <;> decide +kernel
theorem set2 : settleR H2 [3, 0] = ([1, 1], [1, 0], 1, 0) := by
  have h0 : ∀ i, i < H2.ground.length → 0 ≤ ata [3, 0] i := fun i hi => by
    have : i = 0 ∨ i = 1 := by have : H2.ground.length = 2 := rfl
                               omega
    rcases this with rfl | rfl <;> decide
  have I := (SInv.start (h := H2) (a := [3, 0]) rfl h0).step vh2 (i := 0) (k := 1) (by decide) (by omega) (by decide +kernel)
  have e1 : topL H2 [3, 0] 0 1 = [1, 1] := by decide +kernel
  have e2 : (List.replicate H2.ground.length 0).set 0 (ata (List.replicate H2.ground.length 0) 0 + 1) = [1, 0] := by decide +kernel
  rw [e1, e2] at I
  obtain ⟨d1, d2⟩ := I.done calm2
  have hc : checkE H2 [[3, 0]] = 0 := by decide +kernel
  rw [settle_ok hc, d1, d2]
  have e3 : grd H2 [1, 0] = 1 := by decide +kernel
  rw [e3]
theorem cnt2 : countR H2 = (3, 0) := by decide +kernel
theorem hpg2 : Hpg H2 [1, 1] := ⟨rfl, fun i hi => by
  have : i = 0 ∨ i = 1 := by have : H2.ground.length = 2 := rfl
                             omega
  rcases this with rfl | rfl <;> decide⟩
theorem zer2 : zeroR H2 = ([1, 1], 0) := by
  rw [zero_ok v2]
  have hr : Rec H2 [1, 1] := ⟨calm2, (burn_all vh2 [1, 1]).1 (by decide +kernel)⟩
  have : [1, 1] = zeroL H2 := by
    refine rec_unique vh2 hpg2 (zero_hpg vh2) hr (zero_rec vh2) (alike_trans ?_ (alike_symm (zero_alike vh2)))
    refine ⟨fun _ => 1, fun i hi => ?_⟩
    rw [lap2 _ i hi]
    have : i = 0 ∨ i = 1 := by have : H2.sp.n = 2 := rfl
                               omega
    rcases this with rfl | rfl <;> decide
  rw [← this]
theorem scr2 : scriptR H2 [0, 0] [1, 1] = ([-1, -1], true, 0) := by decide +kernel
theorem f25t : ACallsF Try.prog 25 [dHp H2, ints [3, 0]] (.many [rI [1, 1], rI [1, 0], .dv (i64 1), .dv (i64 0)]) := by
  have := f25 H2 [3, 0]
  rwa [set2] at this
theorem f30t : ACallsF Try.prog 30 [dHp H2] (.many [.dv (i64 3), .dv (i64 0)]) := by
  have := f30_2 H2 vh2 v2 rfl
  rwa [cnt2] at this
theorem f32t : ACallsF Try.prog 32 [dHp H2] (.many [rI [1, 1], .dv (i64 0)]) := by
  have := f32 H2
  rwa [zer2] at this
theorem f42t : ACallsF Try.prog 42 [dHp H2, ints [0, 0], ints [1, 1]] (.many [rI [-1, -1], .dv (.bool true), .dv (i64 0)]) := by
  have := f42x H2 [0, 0] [1, 1] fun v ha hb hab => f84_2 H2 v rfl [0, 0] [1, 1] ha hb hab
  rwa [scr2] at this
theorem f69 : ACalls Try.prog 69 [] (.one (.dv (dHp H2))) := by
  refine callsA_of Try.func69 rfl rfl (by rw [Try.ntmps69]; simp) fun cx hP hn hg => ?_
  rw [Try.ntmps69] at hn
  rw [startF_lk, none_mkM]
  simp only [List.nil_append, List.append_nil, List.cons_append, zipSV, Nat.reduceAdd]
  refine awp_seq ?_
  refine rg ?_
  refine qp (m_al ze25) ?_
  show AWp cx _ _ _
  refine awp_seq ?_
  refine rg ?_
  refine qr (m_bsl el23 ze3 sz3) ?_
  refine qr (m_bsl el23 ze3 sz3) ?_
  refine qr (m_bsl el22 ze23 sz23) ?_
  refine qr (m_bsl el23 ze3 sz3) ?_
  refine qv (m_bld pl25 ze25) ?_
  refine qs (m_st sz25) ?_
  show AWp cx _ _ _
  refine awp_ret ?_
  refine end_cell (.inr rfl) (s1 := .agg [.sl 3 1 0 2, .sl 4 1 0 2]) (by simp only [loadSV, sz25, ag25, St.look, St.ev, lk, mkM, blkOf, svOf, svOfCell, reduceIte, Nat.reduceAdd, Nat.reduceEqDiff, Nat.reduceMul]; rfl) (data_agg (args_cons (data_cells (blk := ⟨[.sl 1 1 0 2, .sl 2 1 0 2], 1, 23, 0, true⟩) (l := [ints [0, 1], ints [1, 0]]) (by simp only [mkM, reduceIte, Nat.reduceEqDiff] <;> rfl) trivial rfl (by simp [DV.cells]) (args_cons (data_ints (L := [0, 1]) (by simp only [mkM, reduceIte, Nat.reduceEqDiff] <;> rfl) trivial rfl rfl rfl (fun _ => trivial)) (args_cons (data_ints (L := [1, 0]) (by simp only [mkM, reduceIte, Nat.reduceEqDiff] <;> rfl) trivial rfl rfl rfl (fun _ => trivial)) args_nil))) (args_cons (data_ints (L := [1, 1]) (by simp only [mkM, reduceIte, Nat.reduceEqDiff] <;> rfl) trivial rfl rfl rfl (fun _ => trivial)) args_nil)))
set_option maxHeartbeats 4000000 in
theorem f29 : ACallsF Try.prog 29 [] (.one (.dv (.bool true))) := by
  refine callsF_of Try.func29 rfl rfl (by rw [Try.ntmps29]; simp) fun cx hP hn hg => ?_
  rw [Try.ntmps29] at hn
  rw [startF_lk, none_mkM]
  simp only [List.nil_append, List.append_nil, List.cons_append, zipSV, Nat.reduceAdd]
  refine awp_seq ?_
  refine rg ?_
  refine qv m_as ?_
  show AWp cx _ _ _
  refine awp_seq ?_
  refine rg ?_
  refine qqA (f69) ?_
  refine qr (m_bsl el23 ze3 sz3) ?_
  refine qqF (f25t) ?_ (ha := (args_cons data_dv (args_cons (data_ints (L := [3, 0]) (by simp only [mkM, reduceIte, Nat.reduceEqDiff] <;> rfl) trivial (by first | rfl | omega | (simp; done) | (simp; omega)) rfl rfl (fun _ => trivial)) args_nil))) (hS := (res_rrdd (d2 := 1015) rfl (by (simp only [mkM, reduceIte, Nat.reduceEqDiff] <;> rfl)) (by (simp only [mkM, reduceIte, Nat.reduceEqDiff] <;> rfl))))
  refine qv m_mv ?_
  refine qv m_ext ?_
  refine qv m_ext ?_
  refine qv m_ext ?_
  refine qv m_ext ?_
  refine qv m_as ?_
  refine qv m_as ?_
  refine qv m_as ?_
  refine qv m_as ?_
  show AWp cx _ _ _
  refine awp_seq ?_
  refine rg ?_
  refine qqA (f69) ?_
  refine qqF (f30t) ?_
  refine qv m_mv ?_
  refine qv m_ext ?_
  refine qv m_ext ?_
  refine qv m_as ?_
  refine qv m_as ?_
  show AWp cx _ _ _
  refine awp_seq ?_
  refine rg ?_
  refine qqA (f69) ?_
  refine qqF (f32t) ?_
  refine qv m_mv ?_
  refine qv m_ext ?_
  refine qv m_ext ?_
  refine qv m_as ?_
  refine qv m_as ?_
  show AWp cx _ _ _
  refine awp_seq ?_
  refine rg ?_
  refine qqA (f69) ?_
  refine qr (m_bsl el23 ze3 sz3) ?_
  refine qr (m_bsl el23 ze3 sz3) ?_
  refine qqF (f42t) ?_ (ha := (args_cons data_dv (args_cons (data_ints (L := [0, 0]) (by simp only [mkM, reduceIte, Nat.reduceEqDiff] <;> rfl) trivial (by first | rfl | omega | (simp; done) | (simp; omega)) rfl rfl (fun _ => trivial)) (args_cons (data_ints (L := [1, 1]) (by simp only [mkM, reduceIte, Nat.reduceEqDiff] <;> rfl) trivial (by first | rfl | omega | (simp; done) | (simp; omega)) rfl rfl (fun _ => trivial)) args_nil))))
  refine qv m_mv ?_
  refine qv m_ext ?_
  refine qv m_ext ?_
  refine qv m_ext ?_
  refine qv m_as ?_
  refine qv m_as ?_
  refine qv m_as ?_
  show AWp cx _ _ _
  refine awp_seq ?_
  refine rg ?_
  refine qv m_mv ?_
  refine qv m_eql ?_
  refine qx m_mv (fun hg40 => ?_) (fun hg40 => ?_)
  rotate_left
  · exact absurd hg40 (by decide)
  refine qv m_mv ?_
  refine qv m_eql ?_
  refine qv m_pk ?_
  refine qx m_mv (fun hg44 => ?_) (fun hg44 => ?_)
  rotate_left
  · exact absurd hg44 (by decide)
  refine qv m_mv ?_
  refine qr (m_bsl el23 ze3 sz3) ?_
  refine qqF (f27 [1, 1] [1, 1] (by decide)) ?_ (ha := (args_cons (data_ints (L := [1, 1]) (by simp only [mkM, reduceIte, Nat.reduceEqDiff] <;> rfl) trivial (by first | rfl | omega | (simp; done) | (simp; omega)) rfl rfl (fun _ => trivial)) (args_cons (data_ints (L := [1, 1]) (by simp only [mkM, reduceIte, Nat.reduceEqDiff] <;> rfl) trivial (by first | rfl | omega | (simp; done) | (simp; omega)) rfl rfl (fun _ => trivial)) args_nil)))
  refine qv m_pk ?_
  refine qx m_mv (fun hg49 => ?_) (fun hg49 => ?_)
  rotate_left
  · exact absurd hg49 (by decide)
  refine qv m_mv ?_
  refine qr (m_bsl el23 ze3 sz3) ?_
  refine qqF (f27 [1, 0] [1, 0] (by decide)) ?_ (ha := (args_cons (data_ints (L := [1, 0]) (by simp only [mkM, reduceIte, Nat.reduceEqDiff] <;> rfl) trivial (by first | rfl | omega | (simp; done) | (simp; omega)) rfl rfl (fun _ => trivial)) (args_cons (data_ints (L := [1, 0]) (by simp only [mkM, reduceIte, Nat.reduceEqDiff] <;> rfl) trivial (by first | rfl | omega | (simp; done) | (simp; omega)) rfl rfl (fun _ => trivial)) args_nil)))
  refine qv m_pk ?_
  refine qx m_mv (fun hg54 => ?_) (fun hg54 => ?_)
  rotate_left
  · exact absurd hg54 (by decide)
  refine qv m_mv ?_
  refine qv m_eql ?_
  refine qv m_pk ?_
  refine qx m_mv (fun hg58 => ?_) (fun hg58 => ?_)
  rotate_left
  · exact absurd hg58 (by decide)
  refine qv m_mv ?_
  refine qv m_eql ?_
  refine qv m_pk ?_
  refine qx m_mv (fun hg62 => ?_) (fun hg62 => ?_)
  rotate_left
  · exact absurd hg62 (by decide)
  refine qv m_mv ?_
  refine qv m_eql ?_
  refine qv m_pk ?_
  refine qx m_mv (fun hg66 => ?_) (fun hg66 => ?_)
  rotate_left
  · exact absurd hg66 (by decide)
  refine qv m_mv ?_
  refine qr (m_bsl el23 ze3 sz3) ?_
  refine qqF (f27 [1, 1] [1, 1] (by decide)) ?_ (ha := (args_cons (data_ints (L := [1, 1]) (by simp only [mkM, reduceIte, Nat.reduceEqDiff] <;> rfl) trivial (by first | rfl | omega | (simp; done) | (simp; omega)) rfl rfl (fun _ => trivial)) (args_cons (data_ints (L := [1, 1]) (by simp only [mkM, reduceIte, Nat.reduceEqDiff] <;> rfl) trivial (by first | rfl | omega | (simp; done) | (simp; omega)) rfl rfl (fun _ => trivial)) args_nil)))
  refine qv m_pk ?_
  refine qx m_mv (fun hg71 => ?_) (fun hg71 => ?_)
  rotate_left
  · exact absurd hg71 (by decide)
  refine qv m_mv ?_
  refine qv m_eql ?_
  refine qv m_pk ?_
  refine qx m_mv (fun hg75 => ?_) (fun hg75 => ?_)
  rotate_left
  · exact absurd hg75 (by decide)
  refine qv m_mv ?_
  refine qv m_pk ?_
  refine qx m_mv (fun hg78 => ?_) (fun hg78 => ?_)
  rotate_left
  · exact absurd hg78 (by decide)
  refine qv m_mv ?_
  refine qr (m_bsl el23 ze3 sz3) ?_
  refine qqF (f27 [-1, -1] [-1, -1] (by decide)) ?_ (ha := (args_cons (data_ints (L := [-1, -1]) (by simp only [mkM, reduceIte, Nat.reduceEqDiff] <;> rfl) trivial (by first | rfl | omega | (simp; done) | (simp; omega)) rfl rfl (fun _ => trivial)) (args_cons (data_ints (L := [-1, -1]) (by simp only [mkM, reduceIte, Nat.reduceEqDiff] <;> rfl) trivial (by first | rfl | omega | (simp; done) | (simp; omega)) rfl rfl (fun _ => trivial)) args_nil)))
  refine qv m_pk ?_
  refine qv m_as ?_
  show AWp cx _ _ _
  refine awp_ret ?_
  exact x1 (hr := (rB_))
end Go.Ab.Try
