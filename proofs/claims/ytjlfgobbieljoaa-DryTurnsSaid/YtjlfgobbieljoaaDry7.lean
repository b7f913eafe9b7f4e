/- The functions of the dry laws, part 7. The walks are written by wip/gen/walk.py. -/
import Derived.Test.YtjlfgobbieljoaaDryPB
set_option linter.all false
namespace Go.Ab.Try
open Go Go.Ab Go.Proofs
theorem runR_ex : runR exY [3, 0] [0, 0, 1] = ([2, 0], 3, 0) := by decide
theorem data_cells {ok : Nat → Prop} {okd : DV → Prop} {M : Nat → Nat × Option Blk} {t g n : Nat} {blk : Blk} {l : List DV} (hM : M t = (g, some blk)) (hst : ok blk.st) (hl : l.length = n) (he : ∀ d ∈ l, d.cells.length = blk.esz)
    (hc : ArgsSV (Data ok okd M) blk.cells (flat l)) : Data ok okd M (.sl t g 0 n) (.list l) := by
  have hlen := argsSV_len hc
  refine .sl t g 0 n blk l (fun j => blk.cells.getD j .dead) hM hst hl he (fun j c hj => ?_) fun j c hj => ?_
  · have hj2 : j < blk.cells.length := by rw [hlen]; exact (List.getElem?_eq_some_iff.1 hj).1
    simp [hj2]
  · have hj2 : j < blk.cells.length := by rw [hlen]; exact (List.getElem?_eq_some_iff.1 hj).1
    exact argsSV_get hc j _ c (by simp [hj2]) hj
theorem data_agg {ok : Nat → Prop} {okd : DV → Prop} {M : Nat → Nat × Option Blk} {ss : List SV} {ds : List DV} (h : ArgsSV (Data ok okd M) ss ds) : Data ok okd M (.agg ss) (.agg ds) :=
  .agg ss ds (argsSV_len h) fun j s c h1 h2 => argsSV_get h j s c h1 h2
theorem end_cell {P : Program} {okd : DV → Prop} {S : St} {x : Exit} {t : Nat} {ty : TypeId} {s1 : SV} {d : DV} (he : x = .normal ∨ x = .ret) (hs : loadSV P ty (S.look (.tmp t)) = some s1) (h1 : Data (fun _ => True) okd S.M s1 d) : EndK P okd [.cell t ty] (.one (.dv d)) x S := by
  refine ⟨he, [s1], [.dv d], by simp [resSV, hs], ⟨h1, trivial⟩, .inl fun r hr => ⟨d, by simpa using hr⟩, rfl⟩
theorem f56 : ACallsF Try.prog 56 [] (.one (.dv (dYd exY))) := by
  refine callsF_of Try.func56 rfl rfl (by rw [Try.ntmps56]; simp) fun cx hP hn hg => ?_
  rw [Try.ntmps56] at hn
  rw [startF_lk, none_mkM]
  simp only [zipSV, Nat.reduceAdd]
  refine awp_seq ?_
  refine awp_reg hg ?_
  refine c_pt hP hn (by decide) trivial (e_alloc ze24) rfl (by simp only [mkM, reduceIte, Nat.reduceEqDiff]; rfl) ?_
  show AWp cx _ _ _
  refine awp_seq ?_
  refine awp_reg hg ?_
  refine c_row hP hn (by decide) trivial (e_buildSlice (by simp only [List.map, St.look, St.ev, lk, mkM, blkOf, svOf, svOfCell, reduceIte, Nat.reduceAdd, Nat.reduceEqDiff, Nat.reduceMul]; rfl) el25 ze3 sz3 rfl (by decide) (by decide) (by simp [fillSV, putCells, cellsSV, List.replicate]; rfl)) rfl (by simp only [mkM, reduceIte, Nat.reduceEqDiff]; rfl) ?_
  refine c_row hP hn (by decide) trivial (e_buildSlice (by simp only [List.map, St.look, St.ev, lk, mkM, blkOf, svOf, svOfCell, reduceIte, Nat.reduceAdd, Nat.reduceEqDiff, Nat.reduceMul]; rfl) el25 ze3 sz3 rfl (by decide) (by decide) (by simp [fillSV, putCells, cellsSV, List.replicate]; rfl)) rfl (by simp only [mkM, reduceIte, Nat.reduceEqDiff]; rfl) ?_
  refine c_val hP hn (by decide) trivial (e_build (by simp only [List.map, St.look, St.ev, lk, mkM, blkOf, svOf, svOfCell, reduceIte, Nat.reduceAdd, Nat.reduceEqDiff, Nat.reduceMul]; rfl) pl55 ze55 (by simp [fillSV, putCells, cellsSV]; rfl) (by simp only [aggSV, allDv]; rfl)) ?_
  refine c_row hP hn (by decide) trivial (e_buildSlice (by simp only [List.map, St.look, St.ev, lk, mkM, blkOf, svOf, svOfCell, reduceIte, Nat.reduceAdd, Nat.reduceEqDiff, Nat.reduceMul]; rfl) el25 ze3 sz3 rfl (by decide) (by decide) (by simp [fillSV, putCells, cellsSV, List.replicate]; rfl)) rfl (by simp only [mkM, reduceIte, Nat.reduceEqDiff]; rfl) ?_
  refine c_row hP hn (by decide) trivial (e_buildSlice (by simp only [List.map, St.look, St.ev, lk, mkM, blkOf, svOf, svOfCell, reduceIte, Nat.reduceAdd, Nat.reduceEqDiff, Nat.reduceMul]; rfl) el25 ze3 sz3 rfl (by decide) (by decide) (by simp [fillSV, putCells, cellsSV, List.replicate]; rfl)) rfl (by simp only [mkM, reduceIte, Nat.reduceEqDiff]; rfl) ?_
  refine c_val hP hn (by decide) trivial (e_build (by simp only [List.map, St.look, St.ev, lk, mkM, blkOf, svOf, svOfCell, reduceIte, Nat.reduceAdd, Nat.reduceEqDiff, Nat.reduceMul]; rfl) pl55 ze55 (by simp [fillSV, putCells, cellsSV]; rfl) (by simp only [aggSV, allDv]; rfl)) ?_
  refine c_row hP hn (by decide) trivial (e_buildSlice (by simp only [List.map, St.look, St.ev, lk, mkM, blkOf, svOf, svOfCell, reduceIte, Nat.reduceAdd, Nat.reduceEqDiff, Nat.reduceMul]; rfl) el22 ze55 sz55 rfl (by decide) (by decide) (by simp [fillSV, putCells, cellsSV, List.replicate]; rfl)) rfl (by simp only [mkM, reduceIte, Nat.reduceEqDiff]; rfl) ?_
  refine c_val hP hn (by decide) trivial (e_build (by simp only [List.map, St.look, St.ev, lk, mkM, blkOf, svOf, svOfCell, reduceIte, Nat.reduceAdd, Nat.reduceEqDiff, Nat.reduceMul]; rfl) pl24 ze24 (by simp [fillSV, putCells, cellsSV]; rfl) (by simp only [aggSV, allDv]; rfl)) ?_
  refine c_put hP hn trivial (e_store (by simp only [St.look, St.ev, lk, mkM, blkOf, svOf, svOfCell, reduceIte, Nat.reduceAdd, Nat.reduceEqDiff, Nat.reduceMul]; rfl) sz24 (by simp only [cellsSV, St.look, St.ev, lk, mkM, blkOf, svOf, svOfCell, reduceIte, Nat.reduceAdd, Nat.reduceEqDiff, Nat.reduceMul]; rfl) rfl rfl (by first | omega | (simp; try omega)) rfl) (by simp only [mkM, reduceIte, Nat.reduceEqDiff]; rfl) rfl (by simp only [nvL, killV]; rfl) ?_
  show AWp cx _ _ _
  refine awp_ret ?_
  refine end_cell (.inr rfl) (s1 := .agg [.dv (i64 2), .sl 7 (0 + 1) 0 2]) (by simp only [loadSV, sz24, ag24, St.look, St.ev, lk, mkM, blkOf, svOf, svOfCell, reduceIte, Nat.reduceAdd, Nat.reduceEqDiff, Nat.reduceMul]; rfl) (data_agg (args_cons (.dv _ (.int _ _)) (args_cons (data_cells (l := [dStp ⟨[1, 0], [0, 1]⟩, dStp ⟨[0, 2], [1, 0]⟩]) (by first | (simp only [mkM, reduceIte, Nat.reduceEqDiff]; done) | (simp only [mkM, reduceIte, Nat.reduceEqDiff]; rfl)) trivial rfl (by simp [DV.cells]) ?_) args_nil)))
  simp only [flat, List.flatMap_cons, List.flatMap_nil, DV.cells, List.cons_append, List.nil_append]
  refine args_cons (data_ints (L := [1, 0]) (by simp only [mkM, reduceIte, Nat.reduceEqDiff]; rfl) trivial rfl rfl rfl fun _ => .int _ _) (args_cons (data_ints (L := [0, 1]) (by simp only [mkM, reduceIte, Nat.reduceEqDiff]; rfl) trivial rfl rfl rfl fun _ => .int _ _) (args_cons (data_ints (L := [0, 2]) (by simp only [mkM, reduceIte, Nat.reduceEqDiff]; rfl) trivial rfl rfl rfl fun _ => .int _ _) (args_cons (data_ints (L := [1, 0]) (by simp only [mkM, reduceIte, Nat.reduceEqDiff]; rfl) trivial rfl rfl rfl fun _ => .int _ _) args_nil)))
theorem f18 : ACallsF Try.prog 18 [] (.one (.dv (.bool true))) := by
  refine callsF_of Try.func18 rfl rfl (by rw [Try.ntmps18]; simp) fun cx hP hn hg => ?_
  rw [Try.ntmps18] at hn
  rw [startF_lk, none_mkM]
  simp only [zipSV, Nat.reduceAdd]
  refine awp_seq ?_
  refine awp_reg hg ?_
  refine c_val hP hn (by decide) trivial (e_assign (by simp only [St.look, St.ev, lk, mkM, blkOf, svOf, svOfCell, reduceIte, Nat.reduceAdd, Nat.reduceEqDiff, Nat.reduceMul]; rfl)) ?_
  show AWp cx _ _ _
  refine awp_seq ?_
  refine awp_reg hg ?_
  refine c_callF hP hn (by decide) trivial (f56) (by simp only [List.map, St.look, St.ev, lk, mkM, blkOf, svOf, svOfCell, reduceIte, Nat.reduceAdd, Nat.reduceEqDiff, Nat.reduceMul]; rfl) (by repeat (first | exact args_nil | refine args_cons data_dv ?_)) (by first | exact res_one | exact res_two | exact res_three | exact res_rK1 (by simp only [mkM, reduceIte, Nat.reduceEqDiff]; rfl) | exact res_rK2 (by simp only [mkM, reduceIte, Nat.reduceEqDiff]; rfl) | exact res_rK3 (by simp only [mkM, reduceIte, Nat.reduceEqDiff]; rfl) | exact res_row rfl | exact res_rowdv rfl | exact res_rowdvdv rfl) ?_
  refine c_row hP hn (by decide) trivial (e_buildSlice (by simp only [List.map, St.look, St.ev, lk, mkM, blkOf, svOf, svOfCell, reduceIte, Nat.reduceAdd, Nat.reduceEqDiff, Nat.reduceMul]; rfl) el25 ze3 sz3 rfl (by decide) (by decide) (by simp [fillSV, putCells, cellsSV, List.replicate]; rfl)) rfl (by simp only [mkM, reduceIte, Nat.reduceEqDiff]; rfl) ?_
  refine c_row hP hn (by decide) trivial (e_buildSlice (by simp only [List.map, St.look, St.ev, lk, mkM, blkOf, svOf, svOfCell, reduceIte, Nat.reduceAdd, Nat.reduceEqDiff, Nat.reduceMul]; rfl) el25 ze3 sz3 rfl (by decide) (by decide) (by simp [fillSV, putCells, cellsSV, List.replicate]; rfl)) rfl (by simp only [mkM, reduceIte, Nat.reduceEqDiff]; rfl) ?_
  have hx := runR_ex
  refine c_callF hP hn (by decide) trivial (f19 exY [3, 0] [0, 0, 1]) (by simp only [List.map, St.look, St.ev, lk, mkM, blkOf, svOf, svOfCell, reduceIte, Nat.reduceAdd, Nat.reduceEqDiff, Nat.reduceMul]; rfl) (args_cons data_dv (args_cons (data_ints (L := [3, 0]) (by first | (simp only [mkM, reduceIte, Nat.reduceEqDiff]; done) | (simp only [mkM, reduceIte, Nat.reduceEqDiff]; rfl)) trivial rfl rfl rfl (fun _ => trivial)) (args_cons (data_ints (L := [0, 0, 1]) (by first | (simp only [mkM, reduceIte, Nat.reduceEqDiff]; done) | (simp only [mkM, reduceIte, Nat.reduceEqDiff]; rfl)) trivial rfl rfl rfl (fun _ => trivial)) args_nil))) (by first | exact res_one | exact res_two | exact res_three | exact res_rK1 (by simp only [mkM, reduceIte, Nat.reduceEqDiff]; rfl) | exact res_rK2 (by simp only [mkM, reduceIte, Nat.reduceEqDiff]; rfl) | exact res_rK3 (by simp only [mkM, reduceIte, Nat.reduceEqDiff]; rfl) | exact res_row rfl | exact res_rowdv rfl | exact res_rowdvdv rfl) ?_
  refine c_val hP hn (by decide) trivial (e_move (by simp only [St.look, St.ev, lk, mkM, blkOf, svOf, svOfCell, reduceIte, Nat.reduceAdd, Nat.reduceEqDiff, Nat.reduceMul]; rfl)) ?_
  refine c_val hP hn (by decide) trivial (e_extract (by simp only [St.look, St.ev, lk, mkM, blkOf, svOf, svOfCell, reduceIte, Nat.reduceAdd, Nat.reduceEqDiff, Nat.reduceMul]; rfl) rfl) ?_
  refine c_val hP hn (by decide) trivial (e_extract (by simp only [St.look, St.ev, lk, mkM, blkOf, svOf, svOfCell, reduceIte, Nat.reduceAdd, Nat.reduceEqDiff, Nat.reduceMul]; rfl) rfl) ?_
  refine c_val hP hn (by decide) trivial (e_extract (by simp only [St.look, St.ev, lk, mkM, blkOf, svOf, svOfCell, reduceIte, Nat.reduceAdd, Nat.reduceEqDiff, Nat.reduceMul]; rfl) rfl) ?_
  refine c_val hP hn (by decide) trivial (e_assign (by simp only [St.look, St.ev, lk, mkM, blkOf, svOf, svOfCell, reduceIte, Nat.reduceAdd, Nat.reduceEqDiff, Nat.reduceMul]; rfl)) ?_
  refine c_val hP hn (by decide) trivial (e_assign (by simp only [St.look, St.ev, lk, mkM, blkOf, svOf, svOfCell, reduceIte, Nat.reduceAdd, Nat.reduceEqDiff, Nat.reduceMul]; rfl)) ?_
  refine c_val hP hn (by decide) trivial (e_assign (by simp only [St.look, St.ev, lk, mkM, blkOf, svOf, svOfCell, reduceIte, Nat.reduceAdd, Nat.reduceEqDiff, Nat.reduceMul]; rfl)) ?_
  show AWp cx _ _ _
  refine awp_seq ?_
  refine awp_reg hg ?_
  refine c_val hP hn (by decide) trivial (e_move (by simp only [St.look, St.ev, lk, mkM, blkOf, svOf, svOfCell, reduceIte, Nat.reduceAdd, Nat.reduceEqDiff, Nat.reduceMul]; rfl)) ?_
  refine c_val hP hn (by decide) trivial (e_eql (by simp only [St.look, St.ev, lk, mkM, blkOf, svOf, svOfCell, reduceIte, Nat.reduceAdd, Nat.reduceEqDiff, Nat.reduceMul]; rfl) (by simp only [St.look, St.ev, lk, mkM, blkOf, svOf, svOfCell, reduceIte, Nat.reduceAdd, Nat.reduceEqDiff, Nat.reduceMul]; rfl)) ?_
  refine c_split hP hn (by decide) trivial (e_move (by simp only [St.look, St.ev, lk, mkM, blkOf, svOf, svOfCell, reduceIte, Nat.reduceAdd, Nat.reduceEqDiff, Nat.reduceMul]; rfl)) (fun hg14 => ?_) (fun hg14 => ?_)
  rotate_left
  · exact absurd hg14 (by simp [runR_ex])
  refine c_val hP hn (by decide) ⟨_, rfl, by simp only [lk, reduceIte, Nat.reduceEqDiff]⟩ (e_move (by simp only [St.look, St.ev, lk, mkM, blkOf, svOf, svOfCell, reduceIte, Nat.reduceAdd, Nat.reduceEqDiff, Nat.reduceMul]; rfl)) ?_
  refine c_val hP hn (by decide) ⟨_, rfl, by simp only [lk, reduceIte, Nat.reduceEqDiff]⟩ (e_eql (by simp only [St.look, St.ev, lk, mkM, blkOf, svOf, svOfCell, reduceIte, Nat.reduceAdd, Nat.reduceEqDiff, Nat.reduceMul]; rfl) (by simp only [St.look, St.ev, lk, mkM, blkOf, svOf, svOfCell, reduceIte, Nat.reduceAdd, Nat.reduceEqDiff, Nat.reduceMul]; rfl)) ?_
  refine c_val hP hn (by decide) trivial (e_pick (by simp only [St.look, St.ev, lk, mkM, blkOf, svOf, svOfCell, reduceIte, Nat.reduceAdd, Nat.reduceEqDiff, Nat.reduceMul]; rfl) (by simp only [St.look, St.ev, lk, mkM, blkOf, svOf, svOfCell, reduceIte, Nat.reduceAdd, Nat.reduceEqDiff, Nat.reduceMul]; rfl) (by simp only [St.look, St.ev, lk, mkM, blkOf, svOf, svOfCell, reduceIte, Nat.reduceAdd, Nat.reduceEqDiff, Nat.reduceMul]; rfl) (by simp only [pickSV, cond_true, cond_false]; rfl)) ?_
  refine c_split hP hn (by decide) trivial (e_move (by simp only [St.look, St.ev, lk, mkM, blkOf, svOf, svOfCell, reduceIte, Nat.reduceAdd, Nat.reduceEqDiff, Nat.reduceMul]; rfl)) (fun hg18 => ?_) (fun hg18 => ?_)
  rotate_left
  · exact absurd hg18 (by simp [runR_ex])
  refine c_val hP hn (by decide) ⟨_, rfl, by simp only [lk, reduceIte, Nat.reduceEqDiff]⟩ (e_move (by simp only [St.look, St.ev, lk, mkM, blkOf, svOf, svOfCell, reduceIte, Nat.reduceAdd, Nat.reduceEqDiff, Nat.reduceMul]; rfl)) ?_
  refine c_row hP hn (by decide) ⟨_, rfl, by simp only [lk, reduceIte, Nat.reduceEqDiff]⟩ (e_buildSlice (by simp only [List.map, St.look, St.ev, lk, mkM, blkOf, svOf, svOfCell, reduceIte, Nat.reduceAdd, Nat.reduceEqDiff, Nat.reduceMul]; rfl) el25 ze3 sz3 rfl (by decide) (by decide) (by simp [fillSV, putCells, cellsSV, List.replicate]; rfl)) rfl (by simp only [mkM, reduceIte, Nat.reduceEqDiff]; rfl) ?_
  refine c_callF hP hn (by decide) ⟨_, rfl, by simp only [lk, reduceIte, Nat.reduceEqDiff]⟩ (f21 (runR exY [3, 0] [0, 0, 1]).1 [2, 0] (by rw [runR_ex]; simp)) (by simp only [List.map, St.look, St.ev, lk, mkM, blkOf, svOf, svOfCell, reduceIte, Nat.reduceAdd, Nat.reduceEqDiff, Nat.reduceMul]; rfl) (args_cons (data_ints (L := (runR exY [3, 0] [0, 0, 1]).1) (by first | (simp only [mkM, reduceIte, Nat.reduceEqDiff]; done) | (simp only [mkM, reduceIte, Nat.reduceEqDiff]; rfl)) trivial rfl rfl rfl (fun _ => trivial)) (args_cons (data_ints (L := [2, 0]) (by first | (simp only [mkM, reduceIte, Nat.reduceEqDiff]; done) | (simp only [mkM, reduceIte, Nat.reduceEqDiff]; rfl)) trivial rfl rfl rfl (fun _ => trivial)) args_nil)) (by first | exact res_one | exact res_two | exact res_three | exact res_rK1 (by simp only [mkM, reduceIte, Nat.reduceEqDiff]; rfl) | exact res_rK2 (by simp only [mkM, reduceIte, Nat.reduceEqDiff]; rfl) | exact res_rK3 (by simp only [mkM, reduceIte, Nat.reduceEqDiff]; rfl) | exact res_row rfl | exact res_rowdv rfl | exact res_rowdvdv rfl) ?_
  refine c_val hP hn (by decide) trivial (e_pick (by simp only [St.look, St.ev, lk, mkM, blkOf, svOf, svOfCell, reduceIte, Nat.reduceAdd, Nat.reduceEqDiff, Nat.reduceMul]; rfl) (by simp only [St.look, St.ev, lk, mkM, blkOf, svOf, svOfCell, reduceIte, Nat.reduceAdd, Nat.reduceEqDiff, Nat.reduceMul]; rfl) (by simp only [St.look, St.ev, lk, mkM, blkOf, svOf, svOfCell, reduceIte, Nat.reduceAdd, Nat.reduceEqDiff, Nat.reduceMul]; rfl) (by simp only [pickSV, cond_true, cond_false]; rfl)) ?_
  refine c_val hP hn (by decide) trivial (e_assign (by simp only [St.look, St.ev, lk, mkM, blkOf, svOf, svOfCell, reduceIte, Nat.reduceAdd, Nat.reduceEqDiff, Nat.reduceMul]; rfl)) ?_
  show AWp cx _ _ _
  refine awp_ret ?_
  exact end_dv (.inr rfl) (by simp [lk, runR_ex]) (.bool _)
end Go.Ab.Try
