/- Dry7, Dry8, Dry9. -/
import Derived.Test.YtjlfgobbieljoaaBogG20
import Derived.Test.YtjlfgobbieljoaaBogG13
set_option linter.all false
set_option linter.all false
namespace Go.Ab.Try
open Go Go.Ab Go.Proofs
theorem runR_ex : runR exY [3, 0] [0, 0, 1] = ([2, 0], 3, 0) := by decide
theorem data_cells {ok : Nat → Prop} {okd : DV → Prop} {M : Nat → Nat × Option Blk} {t g n : Nat} {blk : Blk} {l : List DV} (hM : M t = (g, some blk)) (hst : ok blk.st) (hl : l.length = n) (he : ∀ d ∈ l, d.cells.length = blk.esz)
    (hc : ArgsSV (Data ok okd M) blk.cells (flat l)) : Data ok okd M (.sl t g 0 n) (.list l) := by
  have hlen := argsSV_len hc
  refine .sl t g 0 n blk l (fun j => blk.cells.getD j .dead) hM hst hl he (fun j c hj => ?_) fun j c hj => ?_
  · have hj2 : j < blk.cells.length := by rw [hlen]; exact (List.getElem?_eq_some_iff.1 hj).1
    simp [hj2]
  · have hj2 : j < blk.cells.length := by rw [hlen]; exact (List.getElem?_eq_some_iff.1 hj).1
    exact argsSV_get hc j _ c (by simp [hj2]) hj
theorem data_agg {ok : Nat → Prop} {okd : DV → Prop} {M : Nat → Nat × Option Blk} {ss : List SV} {ds : List DV} (h : ArgsSV (Data ok okd M) ss ds) : Data ok okd M (.agg ss) (.agg ds) :=
  .agg ss ds (argsSV_len h) fun j s c h1 h2 => argsSV_get h j s c h1 h2
theorem end_cell {P : Program} {okd : DV → Prop} {S : St} {x : Exit} {t : Nat} {ty : TypeId} {s1 : SV} {d : DV} (he : x = .normal ∨ x = .ret) (hs : loadSV P ty (S.look (.tmp t)) = some s1) (h1 : Data (fun _ => True) okd S.M s1 d) : EndK P okd [.cell t ty] (.one (.dv d)) x S := by
  refine ⟨he, [s1], [.dv d], by simp [resSV, hs], ⟨h1, trivial⟩, .inl fun r hr => ⟨d, by simpa using hr⟩, rfl⟩
theorem f56 : ACallsF Try.prog 56 [] (.one (.dv (dYd exY))) := by
  refine callsF_of Try.func56 rfl rfl (by rw [Try.ntmps56]; simp) fun cx hP hn hg => ?_
  rw [Try.ntmps56] at hn
  rw [startF_lk, none_mkM]
  simp only [zipSV, Nat.reduceAdd]
  refine awp_seq ?_
  refine awp_reg hg ?_
  refine c_pt hP hn (by decide) trivial (e_alloc ze24) rfl (by simp only [mkM, reduceIte, Nat.reduceEqDiff]; rfl) ?_
  show AWp cx _ _ _
  refine awp_seq ?_
  refine awp_reg hg ?_
  refine c_row hP hn (by decide) trivial (e_buildSlice (by simp only [List.map, St.look, St.ev, lk, mkM, blkOf, svOf, svOfCell, reduceIte, Nat.reduceAdd, Nat.reduceEqDiff, Nat.reduceMul]; rfl) el25 ze3 sz3 rfl (by decide) (by decide) (by simp [fillSV, putCells, cellsSV, List.replicate]; rfl)) rfl (by simp only [mkM, reduceIte, Nat.reduceEqDiff]; rfl) ?_
  refine c_row hP hn (by decide) trivial (e_buildSlice (by simp only [List.map, St.look, St.ev, lk, mkM, blkOf, svOf, svOfCell, reduceIte, Nat.reduceAdd, Nat.reduceEqDiff, Nat.reduceMul]; rfl) el25 ze3 sz3 rfl (by decide) (by decide) (by simp [fillSV, putCells, cellsSV, List.replicate]; rfl)) rfl (by simp only [mkM, reduceIte, Nat.reduceEqDiff]; rfl) ?_
  refine c_val hP hn (by decide) trivial (e_build (by simp only [List.map, St.look, St.ev, lk, mkM, blkOf, svOf, svOfCell, reduceIte, Nat.reduceAdd, Nat.reduceEqDiff, Nat.reduceMul]; rfl) pl55 ze55 (by simp [fillSV, putCells, cellsSV]; rfl) (by simp only [aggSV, allDv]; rfl)) ?_
  refine c_row hP hn (by decide) trivial (e_buildSlice (by simp only [List.map, St.look, St.ev, lk, mkM, blkOf, svOf, svOfCell, reduceIte, Nat.reduceAdd, Nat.reduceEqDiff, Nat.reduceMul]; rfl) el25 ze3 sz3 rfl (by decide) (by decide) (by simp [fillSV, putCells, cellsSV, List.replicate]; rfl)) rfl (by simp only [mkM, reduceIte, Nat.reduceEqDiff]; rfl) ?_
  refine c_row hP hn (by decide) trivial (e_buildSlice (by simp only [List.map, St.look, St.ev, lk, mkM, blkOf, svOf, svOfCell, reduceIte, Nat.reduceAdd, Nat.reduceEqDiff, Nat.reduceMul]; rfl) el25 ze3 sz3 rfl (by decide) (by decide) (by simp [fillSV, putCells, cellsSV, List.replicate]; rfl)) rfl (by simp only [mkM, reduceIte, Nat.reduceEqDiff]; rfl) ?_
  refine c_val hP hn (by decide) trivial (e_build (by simp only [List.map, St.look, St.ev, lk, mkM, blkOf, svOf, svOfCell, reduceIte, Nat.reduceAdd, Nat.reduceEqDiff, Nat.reduceMul]; rfl) pl55 ze55 (by simp [fillSV, putCells, cellsSV]; rfl) (by simp only [aggSV, allDv]; rfl)) ?_
  refine c_row hP hn (by decide) trivial (e_buildSlice (by simp only [List.map, St.look, St.ev, lk, mkM, blkOf, svOf, svOfCell, reduceIte, Nat.reduceAdd, Nat.reduceEqDiff, Nat.reduceMul]; rfl) el22 ze55 sz55 rfl (by decide) (by decide) (by simp [fillSV, putCells, cellsSV, List.replicate]; rfl)) rfl (by simp only [mkM, reduceIte, Nat.reduceEqDiff]; rfl) ?_
  refine c_val hP hn (by decide) trivial (e_build (by simp only [List.map, St.look, St.ev, lk, mkM, blkOf, svOf, svOfCell, reduceIte, Nat.reduceAdd, Nat.reduceEqDiff, Nat.reduceMul]; rfl) pl24 ze24 (by simp [fillSV, putCells, cellsSV]; rfl) (by simp only [aggSV, allDv]; rfl)) ?_
  refine c_put hP hn trivial (e_store (by simp only [St.look, St.ev, lk, mkM, blkOf, svOf, svOfCell, reduceIte, Nat.reduceAdd, Nat.reduceEqDiff, Nat.reduceMul]; rfl) sz24 (by simp only [cellsSV, St.look, St.ev, lk, mkM, blkOf, svOf, svOfCell, reduceIte, Nat.reduceAdd, Nat.reduceEqDiff, Nat.reduceMul]; rfl) rfl rfl (by first | omega | (simp; try omega)) rfl) (by simp only [mkM, reduceIte, Nat.reduceEqDiff]; rfl) rfl (by simp only [nvL, killV]; rfl) ?_
  show AWp cx _ _ _
  refine awp_ret ?_
  refine end_cell (.inr rfl) (s1 := .agg [.dv (i64 2), .sl 7 (0 + 1) 0 2]) (by simp only [loadSV, sz24, ag24, St.look, St.ev, lk, mkM, blkOf, svOf, svOfCell, reduceIte, Nat.reduceAdd, Nat.reduceEqDiff, Nat.reduceMul]; rfl) (data_agg (args_cons (.dv _ (.int _ _)) (args_cons (data_cells (l := [dStp ⟨[1, 0], [0, 1]⟩, dStp ⟨[0, 2], [1, 0]⟩]) (by first | (simp only [mkM, reduceIte, Nat.reduceEqDiff]; done) | (simp only [mkM, reduceIte, Nat.reduceEqDiff]; rfl)) trivial rfl (by simp [DV.cells]) ?_) args_nil)))
  simp only [flat, List.flatMap_cons, List.flatMap_nil, DV.cells, List.cons_append, List.nil_append]
  refine args_cons (data_ints (L := [1, 0]) (by simp only [mkM, reduceIte, Nat.reduceEqDiff]; rfl) trivial rfl rfl rfl fun _ => .int _ _) (args_cons (data_ints (L := [0, 1]) (by simp only [mkM, reduceIte, Nat.reduceEqDiff]; rfl) trivial rfl rfl rfl fun _ => .int _ _) (args_cons (data_ints (L := [0, 2]) (by simp only [mkM, reduceIte, Nat.reduceEqDiff]; rfl) trivial rfl rfl rfl fun _ => .int _ _) (args_cons (data_ints (L := [1, 0]) (by simp only [mkM, reduceIte, Nat.reduceEqDiff]; rfl) trivial rfl rfl rfl fun _ => .int _ _) args_nil)))
theorem f18 : ACallsF Try.prog 18 [] (.one (.dv (.bool true))) := by
  refine callsF_of Try.func18 rfl rfl (by rw [Try.ntmps18]; simp) fun cx hP hn hg => ?_
  rw [Try.ntmps18] at hn
  rw [startF_lk, none_mkM]
  simp only [zipSV, Nat.reduceAdd]
  refine awp_seq ?_
  refine awp_reg hg ?_
  refine c_val hP hn (by decide) trivial (e_assign (by simp only [St.look, St.ev, lk, mkM, blkOf, svOf, svOfCell, reduceIte, Nat.reduceAdd, Nat.reduceEqDiff, Nat.reduceMul]; rfl)) ?_
  show AWp cx _ _ _
  refine awp_seq ?_
  refine awp_reg hg ?_
  refine c_callF hP hn (by decide) trivial (f56) (by simp only [List.map, St.look, St.ev, lk, mkM, blkOf, svOf, svOfCell, reduceIte, Nat.reduceAdd, Nat.reduceEqDiff, Nat.reduceMul]; rfl) (by repeat (first | exact args_nil | refine args_cons data_dv ?_)) (by first | exact res_one | exact res_two | exact res_three | exact res_rK1 (by simp only [mkM, reduceIte, Nat.reduceEqDiff]; rfl) | exact res_rK2 (by simp only [mkM, reduceIte, Nat.reduceEqDiff]; rfl) | exact res_rK3 (by simp only [mkM, reduceIte, Nat.reduceEqDiff]; rfl) | exact res_row rfl | exact res_rowdv rfl | exact res_rowdvdv rfl) ?_
  refine c_row hP hn (by decide) trivial (e_buildSlice (by simp only [List.map, St.look, St.ev, lk, mkM, blkOf, svOf, svOfCell, reduceIte, Nat.reduceAdd, Nat.reduceEqDiff, Nat.reduceMul]; rfl) el25 ze3 sz3 rfl (by decide) (by decide) (by simp [fillSV, putCells, cellsSV, List.replicate]; rfl)) rfl (by simp only [mkM, reduceIte, Nat.reduceEqDiff]; rfl) ?_
  refine c_row hP hn (by decide) trivial (e_buildSlice (by simp only [List.map, St.look, St.ev, lk, mkM, blkOf, svOf, svOfCell, reduceIte, Nat.reduceAdd, Nat.reduceEqDiff, Nat.reduceMul]; rfl) el25 ze3 sz3 rfl (by decide) (by decide) (by simp [fillSV, putCells, cellsSV, List.replicate]; rfl)) rfl (by simp only [mkM, reduceIte, Nat.reduceEqDiff]; rfl) ?_
  have hx := runR_ex
  refine c_callF hP hn (by decide) trivial (f19 exY [3, 0] [0, 0, 1]) (by simp only [List.map, St.look, St.ev, lk, mkM, blkOf, svOf, svOfCell, reduceIte, Nat.reduceAdd, Nat.reduceEqDiff, Nat.reduceMul]; rfl) (args_cons data_dv (args_cons (data_ints (L := [3, 0]) (by first | (simp only [mkM, reduceIte, Nat.reduceEqDiff]; done) | (simp only [mkM, reduceIte, Nat.reduceEqDiff]; rfl)) trivial rfl rfl rfl (fun _ => trivial)) (args_cons (data_ints (L := [0, 0, 1]) (by first | (simp only [mkM, reduceIte, Nat.reduceEqDiff]; done) | (simp only [mkM, reduceIte, Nat.reduceEqDiff]; rfl)) trivial rfl rfl rfl (fun _ => trivial)) args_nil))) (by first | exact res_one | exact res_two | exact res_three | exact res_rK1 (by simp only [mkM, reduceIte, Nat.reduceEqDiff]; rfl) | exact res_rK2 (by simp only [mkM, reduceIte, Nat.reduceEqDiff]; rfl) | exact res_rK3 (by simp only [mkM, reduceIte, Nat.reduceEqDiff]; rfl) | exact res_row rfl | exact res_rowdv rfl | exact res_rowdvdv rfl) ?_
  refine c_val hP hn (by decide) trivial (e_move (by simp only [St.look, St.ev, lk, mkM, blkOf, svOf, svOfCell, reduceIte, Nat.reduceAdd, Nat.reduceEqDiff, Nat.reduceMul]; rfl)) ?_
  refine c_val hP hn (by decide) trivial (e_extract (by simp only [St.look, St.ev, lk, mkM, blkOf, svOf, svOfCell, reduceIte, Nat.reduceAdd, Nat.reduceEqDiff, Nat.reduceMul]; rfl) rfl) ?_
  refine c_val hP hn (by decide) trivial (e_extract (by simp only [St.look, St.ev, lk, mkM, blkOf, svOf, svOfCell, reduceIte, Nat.reduceAdd, Nat.reduceEqDiff, Nat.reduceMul]; rfl) rfl) ?_
  refine c_val hP hn (by decide) trivial (e_extract (by simp only [St.look, St.ev, lk, mkM, blkOf, svOf, svOfCell, reduceIte, Nat.reduceAdd, Nat.reduceEqDiff, Nat.reduceMul]; rfl) rfl) ?_
  refine c_val hP hn (by decide) trivial (e_assign (by simp only [St.look, St.ev, lk, mkM, blkOf, svOf, svOfCell, reduceIte, Nat.reduceAdd, Nat.reduceEqDiff, Nat.reduceMul]; rfl)) ?_
  refine c_val hP hn (by decide) trivial (e_assign (by simp only [St.look, St.ev, lk, mkM, blkOf, svOf, svOfCell, reduceIte, Nat.reduceAdd, Nat.reduceEqDiff, Nat.reduceMul]; rfl)) ?_
  refine c_val hP hn (by decide) trivial (e_assign (by simp only [St.look, St.ev, lk, mkM, blkOf, svOf, svOfCell, reduceIte, Nat.reduceAdd, Nat.reduceEqDiff, Nat.reduceMul]; rfl)) ?_
  show AWp cx _ _ _
  refine awp_seq ?_
  refine awp_reg hg ?_
  refine c_val hP hn (by decide) trivial (e_move (by simp only [St.look, St.ev, lk, mkM, blkOf, svOf, svOfCell, reduceIte, Nat.reduceAdd, Nat.reduceEqDiff, Nat.reduceMul]; rfl)) ?_
  refine c_val hP hn (by decide) trivial (e_eql (by simp only [St.look, St.ev, lk, mkM, blkOf, svOf, svOfCell, reduceIte, Nat.reduceAdd, Nat.reduceEqDiff, Nat.reduceMul]; rfl) (by simp only [St.look, St.ev, lk, mkM, blkOf, svOf, svOfCell, reduceIte, Nat.reduceAdd, Nat.reduceEqDiff, Nat.reduceMul]; rfl)) ?_
  refine c_split hP hn (by decide) trivial (e_move (by simp only [St.look, St.ev, lk, mkM, blkOf, svOf, svOfCell, reduceIte, Nat.reduceAdd, Nat.reduceEqDiff, Nat.reduceMul]; rfl)) (fun hg14 => ?_) (fun hg14 => ?_)
  rotate_left
  · exact absurd hg14 (by simp [runR_ex])
  refine c_val hP hn (by decide) ⟨_, rfl, by simp only [lk, reduceIte, Nat.reduceEqDiff]⟩ (e_move (by simp only [St.look, St.ev, lk, mkM, blkOf, svOf, svOfCell, reduceIte, Nat.reduceAdd, Nat.reduceEqDiff, Nat.reduceMul]; rfl)) ?_
  refine c_val hP hn (by decide) ⟨_, rfl, by simp only [lk, reduceIte, Nat.reduceEqDiff]⟩ (e_eql (by simp only [St.look, St.ev, lk, mkM, blkOf, svOf, svOfCell, reduceIte, Nat.reduceAdd, Nat.reduceEqDiff, Nat.reduceMul]; rfl) (by simp only [St.look, St.ev, lk, mkM, blkOf, svOf, svOfCell, reduceIte, Nat.reduceAdd, Nat.reduceEqDiff, Nat.reduceMul]; rfl)) ?_
  refine c_val hP hn (by decide) trivial (e_pick (by simp only [St.look, St.ev, lk, mkM, blkOf, svOf, svOfCell, reduceIte, Nat.reduceAdd, Nat.reduceEqDiff, Nat.reduceMul]; rfl) (by simp only [St.look, St.ev, lk, mkM, blkOf, svOf, svOfCell, reduceIte, Nat.reduceAdd, Nat.reduceEqDiff, Nat.reduceMul]; rfl) (by simp only [St.look, St.ev, lk, mkM, blkOf, svOf, svOfCell, reduceIte, Nat.reduceAdd, Nat.reduceEqDiff, Nat.reduceMul]; rfl) (by simp only [pickSV, cond_true, cond_false]; rfl)) ?_
  refine c_split hP hn (by decide) trivial (e_move (by simp only [St.look, St.ev, lk, mkM, blkOf, svOf, svOfCell, reduceIte, Nat.reduceAdd, Nat.reduceEqDiff, Nat.reduceMul]; rfl)) (fun hg18 => ?_) (fun hg18 => ?_)
  rotate_left
  · exact absurd hg18 (by simp [runR_ex])
  refine c_val hP hn (by decide) ⟨_, rfl, by simp only [lk, reduceIte, Nat.reduceEqDiff]⟩ (e_move (by simp only [St.look, St.ev, lk, mkM, blkOf, svOf, svOfCell, reduceIte, Nat.reduceAdd, Nat.reduceEqDiff, Nat.reduceMul]; rfl)) ?_
  refine c_row hP hn (by decide) ⟨_, rfl, by simp only [lk, reduceIte, Nat.reduceEqDiff]⟩ (e_buildSlice (by simp only [List.map, St.look, St.ev, lk, mkM, blkOf, svOf, svOfCell, reduceIte, Nat.reduceAdd, Nat.reduceEqDiff, Nat.reduceMul]; rfl) el25 ze3 sz3 rfl (by decide) (by decide) (by simp [fillSV, putCells, cellsSV, List.replicate]; rfl)) rfl (by simp only [mkM, reduceIte, Nat.reduceEqDiff]; rfl) ?_
  refine c_callF hP hn (by decide) ⟨_, rfl, by simp only [lk, reduceIte, Nat.reduceEqDiff]⟩ (f21 (runR exY [3, 0] [0, 0, 1]).1 [2, 0] (by rw [runR_ex]; simp)) (by simp only [List.map, St.look, St.ev, lk, mkM, blkOf, svOf, svOfCell, reduceIte, Nat.reduceAdd, Nat.reduceEqDiff, Nat.reduceMul]; rfl) (args_cons (data_ints (L := (runR exY [3, 0] [0, 0, 1]).1) (by first | (simp only [mkM, reduceIte, Nat.reduceEqDiff]; done) | (simp only [mkM, reduceIte, Nat.reduceEqDiff]; rfl)) trivial rfl rfl rfl (fun _ => trivial)) (args_cons (data_ints (L := [2, 0]) (by first | (simp only [mkM, reduceIte, Nat.reduceEqDiff]; done) | (simp only [mkM, reduceIte, Nat.reduceEqDiff]; rfl)) trivial rfl rfl rfl (fun _ => trivial)) args_nil)) (by first | exact res_one | exact res_two | exact res_three | exact res_rK1 (by simp only [mkM, reduceIte, Nat.reduceEqDiff]; rfl) | exact res_rK2 (by simp only [mkM, reduceIte, Nat.reduceEqDiff]; rfl) | exact res_rK3 (by simp only [mkM, reduceIte, Nat.reduceEqDiff]; rfl) | exact res_row rfl | exact res_rowdv rfl | exact res_rowdvdv rfl) ?_
  refine c_val hP hn (by decide) trivial (e_pick (by simp only [St.look, St.ev, lk, mkM, blkOf, svOf, svOfCell, reduceIte, Nat.reduceAdd, Nat.reduceEqDiff, Nat.reduceMul]; rfl) (by simp only [St.look, St.ev, lk, mkM, blkOf, svOf, svOfCell, reduceIte, Nat.reduceAdd, Nat.reduceEqDiff, Nat.reduceMul]; rfl) (by simp only [St.look, St.ev, lk, mkM, blkOf, svOf, svOfCell, reduceIte, Nat.reduceAdd, Nat.reduceEqDiff, Nat.reduceMul]; rfl) (by simp only [pickSV, cond_true, cond_false]; rfl)) ?_
  refine c_val hP hn (by decide) trivial (e_assign (by simp only [St.look, St.ev, lk, mkM, blkOf, svOf, svOfCell, reduceIte, Nat.reduceAdd, Nat.reduceEqDiff, Nat.reduceMul]; rfl)) ?_
  show AWp cx _ _ _
  refine awp_ret ?_
  exact end_dv (.inr rfl) (by simp [lk, runR_ex]) (.bool _)
end Go.Ab.Try
set_option linter.all false
namespace Go.Ab.Try
open Go Go.Ab Go.Proofs
theorem runFrom_vm {y : Yd} (hv : VYd y) : ∀ (l m : List Int) (i : Nat), VM y m → (∀ x ∈ l, 0 ≤ x ∧ x < y.steps.length) → ((runFrom y m l i).2.2 = 0 → VM y (runFrom y m l i).1) ∧ ((runFrom y m l i).2.2 ≠ 0 → (runFrom y m l i).1 = [])
  | [], m, i, hm, _ => by simp [runFrom, hm]
  | s :: l, m, i, hm, hl => by
    simp only [runFrom]
    split
    · rename_i h; simp [h]
    · rename_i h
      obtain ⟨h0, h1⟩ := hl s (by simp)
      exact runFrom_vm hv l _ (i + 1) (after_vm hv hm h0 h1 (by simpa using h)).1 fun x hx => hl x (by simp [hx])
theorem runR_fst {y : Yd} {m l : List Int} : (runR y m l).1 = [] ∨ (VYd y ∧ VM y (runR y m l).1 ∧ (runR y m l).2.2 = 0) := by
  unfold runR
  split
  · exact .inl rfl
  · rename_i h1
    obtain ⟨hv, hm⟩ := filled_ok (by simpa using h1)
    split
    · exact .inl rfl
    · rename_i h2
      obtain ⟨_, hl⟩ := listed_ok (by simpa using h2)
      obtain ⟨a, b⟩ := runFrom_vm hv l m 0 hm hl
      by_cases h : (runFrom y m l 0).2.2 = 0
      · exact .inr ⟨hv, a h, h⟩
      · exact .inl (b h)
theorem runR_len (y : Yd) (m l : List Int) : (runR y m l).1.length < 1000000 := by
  rcases runR_fst (y := y) (m := m) (l := l) with h | ⟨h1, h2, _⟩
  · rw [h]; decide
  · have := allIn_len h2
    obtain ⟨_, _, _, _⟩ := validate_ok h1
    omega
theorem f3 (y : Yd) (m l : List Int) : ACallsF Try.prog 3 [dYd y, ints m, ints l] (.one (.dv (.bool true))) := by
  refine callsF_of Try.func3 rfl rfl (by rw [Try.ntmps3]; simp) fun cx hP hn hg => ?_
  rw [Try.ntmps3] at hn
  rw [startF_lk, none_mkM]
  simp only [zipSV, Nat.reduceAdd]
  refine awp_seq ?_
  refine awp_reg hg ?_
  refine c_pt hP hn (by decide) trivial (e_box (by simp only [St.look, St.ev, lk, mkM, blkOf, svOf, svOfCell, reduceIte, Nat.reduceAdd, Nat.reduceEqDiff, Nat.reduceMul]; rfl) (by simp only [cellsSV, List.map]; rfl)) rfl (by simp only [mkM, reduceIte, Nat.reduceEqDiff]; rfl) ?_
  refine c_val hP hn (by decide) trivial (e_assign (by simp only [St.look, St.ev, lk, mkM, blkOf, svOf, svOfCell, reduceIte, Nat.reduceAdd, Nat.reduceEqDiff, Nat.reduceMul]; rfl)) ?_
  show AWp cx _ _ _
  refine awp_seq ?_
  refine awp_seq ?_
  refine awp_reg hg ?_
  refine c_val hP hn (by decide) trivial (by first | exact e_loada (by simp only [St.look, St.ev, lk, mkM, blkOf, svOf, svOfCell, reduceIte, Nat.reduceAdd, Nat.reduceEqDiff, Nat.reduceMul]; rfl) sz24 ag24 (by first | exact Nat.le_refl _ | simp [DV.cells]) (by simp only [DV.cells, List.take]; rfl) | exact e_loadpa (by simp only [St.look, St.ev, lk, mkM, blkOf, svOf, svOfCell, reduceIte, Nat.reduceAdd, Nat.reduceEqDiff, Nat.reduceMul]; rfl) sz24 ag24 (by first | exact Nat.le_refl _ | simp) (by simp only [aggSV, allDv, List.drop, List.take]; rfl)) ?_
  refine c_callF hP hn (by decide) trivial (f16 y) (by simp only [List.map, St.look, St.ev, lk, mkM, blkOf, svOf, svOfCell, reduceIte, Nat.reduceAdd, Nat.reduceEqDiff, Nat.reduceMul]; rfl) (by repeat (first | exact args_nil | refine args_cons data_dv ?_)) (by first | exact res_one | exact res_two | exact res_three | exact res_rK1 (by simp only [mkM, reduceIte, Nat.reduceEqDiff]; rfl) | exact res_rK2 (by simp only [mkM, reduceIte, Nat.reduceEqDiff]; rfl) | exact res_rK3 (by simp only [mkM, reduceIte, Nat.reduceEqDiff]; rfl) | exact res_row rfl | exact res_rowdv rfl | exact res_rowdvdv rfl) ?_
  refine c_split hP hn (by decide) trivial (e_move (by simp only [St.look, St.ev, lk, mkM, blkOf, svOf, svOfCell, reduceIte, Nat.reduceAdd, Nat.reduceEqDiff, Nat.reduceMul]; rfl)) (fun hg15 => ?_) (fun hg15 => ?_)
  · try simp at hg15
    refine c_skip rfl (by simp only [lk, reduceIte, Nat.reduceEqDiff]; rfl) (by decide) ?_
    refine c_skip rfl (by simp only [lk, reduceIte, Nat.reduceEqDiff]; rfl) (by decide) ?_
    refine c_val hP hn (by decide) trivial (e_pick (by simp only [St.look, St.ev, lk, mkM, blkOf, svOf, svOfCell, reduceIte, Nat.reduceAdd, Nat.reduceEqDiff, Nat.reduceMul]; rfl) (by simp only [St.look, St.ev, lk, mkM, blkOf, svOf, svOfCell, reduceIte, Nat.reduceAdd, Nat.reduceEqDiff, Nat.reduceMul]; rfl) (by simp only [St.look, St.ev, lk, mkM, blkOf, svOf, svOfCell, reduceIte, Nat.reduceAdd, Nat.reduceEqDiff, Nat.reduceMul]; rfl) (by simp only [pickSV, cond_true, cond_false]; rfl)) ?_
    refine c_val hP hn (by decide) trivial (e_move (by simp only [St.look, St.ev, lk, mkM, blkOf, svOf, svOfCell, reduceIte, Nat.reduceAdd, Nat.reduceEqDiff, Nat.reduceMul]; rfl)) ?_
    refine c_skip rfl (by simp only [lk, reduceIte, Nat.reduceEqDiff]; rfl) (by decide) ?_
    refine c_skip rfl (by simp only [lk, reduceIte, Nat.reduceEqDiff]; rfl) (by decide) ?_
    refine c_val hP hn (by decide) trivial (e_pick (by simp only [St.look, St.ev, lk, mkM, blkOf, svOf, svOfCell, reduceIte, Nat.reduceAdd, Nat.reduceEqDiff, Nat.reduceMul]; rfl) (by simp only [St.look, St.ev, lk, mkM, blkOf, svOf, svOfCell, reduceIte, Nat.reduceAdd, Nat.reduceEqDiff, Nat.reduceMul]; rfl) (by simp only [St.look, St.ev, lk, mkM, blkOf, svOf, svOfCell, reduceIte, Nat.reduceAdd, Nat.reduceEqDiff, Nat.reduceMul]; rfl) (by simp only [pickSV, cond_true, cond_false]; rfl)) ?_
    show AWp cx _ _ _
    refine awp_cond (by simp only [St.look, St.ev, lk, mkM, blkOf, svOf, svOfCell, reduceIte, Nat.reduceAdd, Nat.reduceEqDiff, Nat.reduceMul]; rfl) (fun hc0 => ?_) (fun hc0 => ?_)
    rotate_left
    · exact absurd hc0 (by simp)
    refine awp_seq ?_
    refine awp_reg hg ?_
    refine c_callF hP hn (by decide) trivial (f18) (by simp only [List.map, St.look, St.ev, lk, mkM, blkOf, svOf, svOfCell, reduceIte, Nat.reduceAdd, Nat.reduceEqDiff, Nat.reduceMul]; rfl) (by repeat (first | exact args_nil | refine args_cons data_dv ?_)) (by first | exact res_one | exact res_two | exact res_three | exact res_rK1 (by simp only [mkM, reduceIte, Nat.reduceEqDiff]; rfl) | exact res_rK2 (by simp only [mkM, reduceIte, Nat.reduceEqDiff]; rfl) | exact res_rK3 (by simp only [mkM, reduceIte, Nat.reduceEqDiff]; rfl) | exact res_row rfl | exact res_rowdv rfl | exact res_rowdvdv rfl) ?_
    refine c_val hP hn (by decide) trivial (e_assign (by simp only [St.look, St.ev, lk, mkM, blkOf, svOf, svOfCell, reduceIte, Nat.reduceAdd, Nat.reduceEqDiff, Nat.reduceMul]; rfl)) ?_
    show AWp cx _ _ _
    refine awp_ret ?_
    exact end_dv (.inr rfl) (by simp [lk]) (.bool _)
  · try simp at hg15
    refine c_val hP hn (by decide) ⟨_, rfl, by simp only [lk, reduceIte, Nat.reduceEqDiff]⟩ (e_move (by simp only [St.look, St.ev, lk, mkM, blkOf, svOf, svOfCell, reduceIte, Nat.reduceAdd, Nat.reduceEqDiff, Nat.reduceMul]; rfl)) ?_
    refine c_callF hP hn (by decide) ⟨_, rfl, by simp only [lk, reduceIte, Nat.reduceEqDiff]⟩ (f17 m) (by simp only [List.map, St.look, St.ev, lk, mkM, blkOf, svOf, svOfCell, reduceIte, Nat.reduceAdd, Nat.reduceEqDiff, Nat.reduceMul]; rfl) (by repeat (first | exact args_nil | refine args_cons data_dv ?_)) (by first | exact res_one | exact res_two | exact res_three | exact res_rK1 (by simp only [mkM, reduceIte, Nat.reduceEqDiff]; rfl) | exact res_rK2 (by simp only [mkM, reduceIte, Nat.reduceEqDiff]; rfl) | exact res_rK3 (by simp only [mkM, reduceIte, Nat.reduceEqDiff]; rfl) | exact res_row rfl | exact res_rowdv rfl | exact res_rowdvdv rfl) ?_
    refine c_val hP hn (by decide) trivial (e_pick (by simp only [St.look, St.ev, lk, mkM, blkOf, svOf, svOfCell, reduceIte, Nat.reduceAdd, Nat.reduceEqDiff, Nat.reduceMul]; rfl) (by simp only [St.look, St.ev, lk, mkM, blkOf, svOf, svOfCell, reduceIte, Nat.reduceAdd, Nat.reduceEqDiff, Nat.reduceMul]; rfl) (by simp only [St.look, St.ev, lk, mkM, blkOf, svOf, svOfCell, reduceIte, Nat.reduceAdd, Nat.reduceEqDiff, Nat.reduceMul]; rfl) (by simp only [pickSV, cond_true, cond_false]; rfl)) ?_
    refine c_split hP hn (by decide) trivial (e_move (by simp only [St.look, St.ev, lk, mkM, blkOf, svOf, svOfCell, reduceIte, Nat.reduceAdd, Nat.reduceEqDiff, Nat.reduceMul]; rfl)) (fun hg19 => ?_) (fun hg19 => ?_)
    · try simp at hg19
      refine c_skip rfl (by simp only [lk, reduceIte, Nat.reduceEqDiff]; rfl) (by decide) ?_
      refine c_skip rfl (by simp only [lk, reduceIte, Nat.reduceEqDiff]; rfl) (by decide) ?_
      refine c_val hP hn (by decide) trivial (e_pick (by simp only [St.look, St.ev, lk, mkM, blkOf, svOf, svOfCell, reduceIte, Nat.reduceAdd, Nat.reduceEqDiff, Nat.reduceMul]; rfl) (by simp only [St.look, St.ev, lk, mkM, blkOf, svOf, svOfCell, reduceIte, Nat.reduceAdd, Nat.reduceEqDiff, Nat.reduceMul]; rfl) (by simp only [St.look, St.ev, lk, mkM, blkOf, svOf, svOfCell, reduceIte, Nat.reduceAdd, Nat.reduceEqDiff, Nat.reduceMul]; rfl) (by simp only [pickSV, cond_true, cond_false]; rfl)) ?_
      show AWp cx _ _ _
      refine awp_cond (by simp only [St.look, St.ev, lk, mkM, blkOf, svOf, svOfCell, reduceIte, Nat.reduceAdd, Nat.reduceEqDiff, Nat.reduceMul]; rfl) (fun hc1 => ?_) (fun hc1 => ?_)
      rotate_left
      · exact absurd hc1 (by simp)
      refine awp_seq ?_
      refine awp_reg hg ?_
      refine c_callF hP hn (by decide) trivial (f18) (by simp only [List.map, St.look, St.ev, lk, mkM, blkOf, svOf, svOfCell, reduceIte, Nat.reduceAdd, Nat.reduceEqDiff, Nat.reduceMul]; rfl) (by repeat (first | exact args_nil | refine args_cons data_dv ?_)) (by first | exact res_one | exact res_two | exact res_three | exact res_rK1 (by simp only [mkM, reduceIte, Nat.reduceEqDiff]; rfl) | exact res_rK2 (by simp only [mkM, reduceIte, Nat.reduceEqDiff]; rfl) | exact res_rK3 (by simp only [mkM, reduceIte, Nat.reduceEqDiff]; rfl) | exact res_row rfl | exact res_rowdv rfl | exact res_rowdvdv rfl) ?_
      refine c_val hP hn (by decide) trivial (e_assign (by simp only [St.look, St.ev, lk, mkM, blkOf, svOf, svOfCell, reduceIte, Nat.reduceAdd, Nat.reduceEqDiff, Nat.reduceMul]; rfl)) ?_
      show AWp cx _ _ _
      refine awp_ret ?_
      exact end_dv (.inr rfl) (by simp [lk]) (.bool _)
    · try simp at hg19
      refine c_val hP hn (by decide) ⟨_, rfl, by simp only [lk, reduceIte, Nat.reduceEqDiff]⟩ (e_move (by simp only [St.look, St.ev, lk, mkM, blkOf, svOf, svOfCell, reduceIte, Nat.reduceAdd, Nat.reduceEqDiff, Nat.reduceMul]; rfl)) ?_
      refine c_callF hP hn (by decide) ⟨_, rfl, by simp only [lk, reduceIte, Nat.reduceEqDiff]⟩ (f17 l) (by simp only [List.map, St.look, St.ev, lk, mkM, blkOf, svOf, svOfCell, reduceIte, Nat.reduceAdd, Nat.reduceEqDiff, Nat.reduceMul]; rfl) (by repeat (first | exact args_nil | refine args_cons data_dv ?_)) (by first | exact res_one | exact res_two | exact res_three | exact res_rK1 (by simp only [mkM, reduceIte, Nat.reduceEqDiff]; rfl) | exact res_rK2 (by simp only [mkM, reduceIte, Nat.reduceEqDiff]; rfl) | exact res_rK3 (by simp only [mkM, reduceIte, Nat.reduceEqDiff]; rfl) | exact res_row rfl | exact res_rowdv rfl | exact res_rowdvdv rfl) ?_
      refine c_val hP hn (by decide) trivial (e_pick (by simp only [St.look, St.ev, lk, mkM, blkOf, svOf, svOfCell, reduceIte, Nat.reduceAdd, Nat.reduceEqDiff, Nat.reduceMul]; rfl) (by simp only [St.look, St.ev, lk, mkM, blkOf, svOf, svOfCell, reduceIte, Nat.reduceAdd, Nat.reduceEqDiff, Nat.reduceMul]; rfl) (by simp only [St.look, St.ev, lk, mkM, blkOf, svOf, svOfCell, reduceIte, Nat.reduceAdd, Nat.reduceEqDiff, Nat.reduceMul]; rfl) (by simp only [pickSV, cond_true, cond_false]; rfl)) ?_
      show AWp cx _ _ _
      refine awp_cond (by simp only [St.look, St.ev, lk, mkM, blkOf, svOf, svOfCell, reduceIte, Nat.reduceAdd, Nat.reduceEqDiff, Nat.reduceMul]; rfl) (fun hc2 => ?_) (fun hc2 => ?_)
      · try simp at hc2
        refine awp_seq ?_
        refine awp_reg hg ?_
        refine c_callF hP hn (by decide) trivial (f18) (by simp only [List.map, St.look, St.ev, lk, mkM, blkOf, svOf, svOfCell, reduceIte, Nat.reduceAdd, Nat.reduceEqDiff, Nat.reduceMul]; rfl) (by repeat (first | exact args_nil | refine args_cons data_dv ?_)) (by first | exact res_one | exact res_two | exact res_three | exact res_rK1 (by simp only [mkM, reduceIte, Nat.reduceEqDiff]; rfl) | exact res_rK2 (by simp only [mkM, reduceIte, Nat.reduceEqDiff]; rfl) | exact res_rK3 (by simp only [mkM, reduceIte, Nat.reduceEqDiff]; rfl) | exact res_row rfl | exact res_rowdv rfl | exact res_rowdvdv rfl) ?_
        refine c_val hP hn (by decide) trivial (e_assign (by simp only [St.look, St.ev, lk, mkM, blkOf, svOf, svOfCell, reduceIte, Nat.reduceAdd, Nat.reduceEqDiff, Nat.reduceMul]; rfl)) ?_
        show AWp cx _ _ _
        refine awp_ret ?_
        exact end_dv (.inr rfl) (by simp [lk]) (.bool _)
      · try simp at hc2
        refine awp_skip ?_
        show AWp cx _ _ _
        refine awp_seq ?_
        refine awp_reg hg ?_
        refine c_val hP hn (by decide) trivial (by first | exact e_loada (by simp only [St.look, St.ev, lk, mkM, blkOf, svOf, svOfCell, reduceIte, Nat.reduceAdd, Nat.reduceEqDiff, Nat.reduceMul]; rfl) sz24 ag24 (by first | exact Nat.le_refl _ | simp [DV.cells]) (by simp only [DV.cells, List.take]; rfl) | exact e_loadpa (by simp only [St.look, St.ev, lk, mkM, blkOf, svOf, svOfCell, reduceIte, Nat.reduceAdd, Nat.reduceEqDiff, Nat.reduceMul]; rfl) sz24 ag24 (by first | exact Nat.le_refl _ | simp) (by simp only [aggSV, allDv, List.drop, List.take]; rfl)) ?_
        refine c_val hP hn (by decide) trivial (e_move (by simp only [St.look, St.ev, lk, mkM, blkOf, svOf, svOfCell, reduceIte, Nat.reduceAdd, Nat.reduceEqDiff, Nat.reduceMul]; rfl)) ?_
        refine c_val hP hn (by decide) trivial (e_move (by simp only [St.look, St.ev, lk, mkM, blkOf, svOf, svOfCell, reduceIte, Nat.reduceAdd, Nat.reduceEqDiff, Nat.reduceMul]; rfl)) ?_
        refine c_callF hP hn (by decide) trivial (f19 y m l) (by simp only [List.map, St.look, St.ev, lk, mkM, blkOf, svOf, svOfCell, reduceIte, Nat.reduceAdd, Nat.reduceEqDiff, Nat.reduceMul]; rfl) (by repeat (first | exact args_nil | refine args_cons data_dv ?_)) (by first | exact res_one | exact res_two | exact res_three | exact res_rK1 (by simp only [mkM, reduceIte, Nat.reduceEqDiff]; rfl) | exact res_rK2 (by simp only [mkM, reduceIte, Nat.reduceEqDiff]; rfl) | exact res_rK3 (by simp only [mkM, reduceIte, Nat.reduceEqDiff]; rfl) | exact res_row rfl | exact res_rowdv rfl | exact res_rowdvdv rfl) ?_
        refine c_val hP hn (by decide) trivial (e_move (by simp only [St.look, St.ev, lk, mkM, blkOf, svOf, svOfCell, reduceIte, Nat.reduceAdd, Nat.reduceEqDiff, Nat.reduceMul]; rfl)) ?_
        refine c_val hP hn (by decide) trivial (e_extract (by simp only [St.look, St.ev, lk, mkM, blkOf, svOf, svOfCell, reduceIte, Nat.reduceAdd, Nat.reduceEqDiff, Nat.reduceMul]; rfl) rfl) ?_
        refine c_val hP hn (by decide) trivial (e_extract (by simp only [St.look, St.ev, lk, mkM, blkOf, svOf, svOfCell, reduceIte, Nat.reduceAdd, Nat.reduceEqDiff, Nat.reduceMul]; rfl) rfl) ?_
        refine c_val hP hn (by decide) trivial (e_extract (by simp only [St.look, St.ev, lk, mkM, blkOf, svOf, svOfCell, reduceIte, Nat.reduceAdd, Nat.reduceEqDiff, Nat.reduceMul]; rfl) rfl) ?_
        refine c_val hP hn (by decide) trivial (e_assign (by simp only [St.look, St.ev, lk, mkM, blkOf, svOf, svOfCell, reduceIte, Nat.reduceAdd, Nat.reduceEqDiff, Nat.reduceMul]; rfl)) ?_
        refine c_val hP hn (by decide) trivial (e_assign (by simp only [St.look, St.ev, lk, mkM, blkOf, svOf, svOfCell, reduceIte, Nat.reduceAdd, Nat.reduceEqDiff, Nat.reduceMul]; rfl)) ?_
        refine c_val hP hn (by decide) trivial (e_assign (by simp only [St.look, St.ev, lk, mkM, blkOf, svOf, svOfCell, reduceIte, Nat.reduceAdd, Nat.reduceEqDiff, Nat.reduceMul]; rfl)) ?_
        show AWp cx _ _ _
        refine awp_seq ?_
        refine awp_reg hg ?_
        refine c_val hP hn (by decide) trivial (by first | exact e_loada (by simp only [St.look, St.ev, lk, mkM, blkOf, svOf, svOfCell, reduceIte, Nat.reduceAdd, Nat.reduceEqDiff, Nat.reduceMul]; rfl) sz24 ag24 (by first | exact Nat.le_refl _ | simp [DV.cells]) (by simp only [DV.cells, List.take]; rfl) | exact e_loadpa (by simp only [St.look, St.ev, lk, mkM, blkOf, svOf, svOfCell, reduceIte, Nat.reduceAdd, Nat.reduceEqDiff, Nat.reduceMul]; rfl) sz24 ag24 (by first | exact Nat.le_refl _ | simp) (by simp only [aggSV, allDv, List.drop, List.take]; rfl)) ?_
        refine c_val hP hn (by decide) trivial (e_move (by simp only [St.look, St.ev, lk, mkM, blkOf, svOf, svOfCell, reduceIte, Nat.reduceAdd, Nat.reduceEqDiff, Nat.reduceMul]; rfl)) ?_
        refine c_val hP hn (by decide) trivial (e_move (by simp only [St.look, St.ev, lk, mkM, blkOf, svOf, svOfCell, reduceIte, Nat.reduceAdd, Nat.reduceEqDiff, Nat.reduceMul]; rfl)) ?_
        refine c_callF hP hn (by decide) trivial (f20 y m l) (by simp only [List.map, St.look, St.ev, lk, mkM, blkOf, svOf, svOfCell, reduceIte, Nat.reduceAdd, Nat.reduceEqDiff, Nat.reduceMul]; rfl) (by repeat (first | exact args_nil | refine args_cons data_dv ?_)) (by first | exact res_one | exact res_two | exact res_three | exact res_rK1 (by simp only [mkM, reduceIte, Nat.reduceEqDiff]; rfl) | exact res_rK2 (by simp only [mkM, reduceIte, Nat.reduceEqDiff]; rfl) | exact res_rK3 (by simp only [mkM, reduceIte, Nat.reduceEqDiff]; rfl) | exact res_row rfl | exact res_rowdv rfl | exact res_rowdvdv rfl) ?_
        refine c_val hP hn (by decide) trivial (e_move (by simp only [St.look, St.ev, lk, mkM, blkOf, svOf, svOfCell, reduceIte, Nat.reduceAdd, Nat.reduceEqDiff, Nat.reduceMul]; rfl)) ?_
        refine c_val hP hn (by decide) trivial (e_extract (by simp only [St.look, St.ev, lk, mkM, blkOf, svOf, svOfCell, reduceIte, Nat.reduceAdd, Nat.reduceEqDiff, Nat.reduceMul]; rfl) rfl) ?_
        refine c_val hP hn (by decide) trivial (e_extract (by simp only [St.look, St.ev, lk, mkM, blkOf, svOf, svOfCell, reduceIte, Nat.reduceAdd, Nat.reduceEqDiff, Nat.reduceMul]; rfl) rfl) ?_
        refine c_val hP hn (by decide) trivial (e_extract (by simp only [St.look, St.ev, lk, mkM, blkOf, svOf, svOfCell, reduceIte, Nat.reduceAdd, Nat.reduceEqDiff, Nat.reduceMul]; rfl) rfl) ?_
        refine c_val hP hn (by decide) trivial (e_assign (by simp only [St.look, St.ev, lk, mkM, blkOf, svOf, svOfCell, reduceIte, Nat.reduceAdd, Nat.reduceEqDiff, Nat.reduceMul]; rfl)) ?_
        refine c_val hP hn (by decide) trivial (e_assign (by simp only [St.look, St.ev, lk, mkM, blkOf, svOf, svOfCell, reduceIte, Nat.reduceAdd, Nat.reduceEqDiff, Nat.reduceMul]; rfl)) ?_
        refine c_val hP hn (by decide) trivial (e_assign (by simp only [St.look, St.ev, lk, mkM, blkOf, svOf, svOfCell, reduceIte, Nat.reduceAdd, Nat.reduceEqDiff, Nat.reduceMul]; rfl)) ?_
        show AWp cx _ _ _
        refine awp_seq ?_
        refine awp_reg hg ?_
        refine c_val hP hn (by decide) trivial (e_move (by simp only [St.look, St.ev, lk, mkM, blkOf, svOf, svOfCell, reduceIte, Nat.reduceAdd, Nat.reduceEqDiff, Nat.reduceMul]; rfl)) ?_
        refine c_val hP hn (by decide) trivial (e_move (by simp only [St.look, St.ev, lk, mkM, blkOf, svOf, svOfCell, reduceIte, Nat.reduceAdd, Nat.reduceEqDiff, Nat.reduceMul]; rfl)) ?_
        refine c_callF hP hn (by decide) trivial (f21 (runR y m l).1 (runR y m l).1 (runR_len y m l)) (by simp only [List.map, St.look, St.ev, lk, mkM, blkOf, svOf, svOfCell, reduceIte, Nat.reduceAdd, Nat.reduceEqDiff, Nat.reduceMul]; rfl) (args_cons (data_ints (L := (runR y m l).1) (by first | (simp only [mkM, reduceIte, Nat.reduceEqDiff]; done) | (simp only [mkM, reduceIte, Nat.reduceEqDiff]; rfl)) trivial rfl rfl rfl (fun _ => trivial)) (args_cons (data_ints (L := (runR y m l).1) (by first | (simp only [mkM, reduceIte, Nat.reduceEqDiff]; done) | (simp only [mkM, reduceIte, Nat.reduceEqDiff]; rfl)) trivial rfl rfl rfl (fun _ => trivial)) args_nil)) (by first | exact res_one | exact res_two | exact res_three | exact res_rK1 (by simp only [mkM, reduceIte, Nat.reduceEqDiff]; rfl) | exact res_rK2 (by simp only [mkM, reduceIte, Nat.reduceEqDiff]; rfl) | exact res_rK3 (by simp only [mkM, reduceIte, Nat.reduceEqDiff]; rfl) | exact res_row rfl | exact res_rowdv rfl | exact res_rowdvdv rfl) ?_
        refine c_split hP hn (by decide) trivial (e_move (by simp only [St.look, St.ev, lk, mkM, blkOf, svOf, svOfCell, reduceIte, Nat.reduceAdd, Nat.reduceEqDiff, Nat.reduceMul]; rfl)) (fun hg43 => ?_) (fun hg43 => ?_)
        rotate_left
        · exact absurd hg43 (by simp)
        refine c_val hP hn (by decide) ⟨_, rfl, by simp only [lk, reduceIte, Nat.reduceEqDiff]⟩ (e_move (by simp only [St.look, St.ev, lk, mkM, blkOf, svOf, svOfCell, reduceIte, Nat.reduceAdd, Nat.reduceEqDiff, Nat.reduceMul]; rfl)) ?_
        refine c_val hP hn (by decide) ⟨_, rfl, by simp only [lk, reduceIte, Nat.reduceEqDiff]⟩ (e_move (by simp only [St.look, St.ev, lk, mkM, blkOf, svOf, svOfCell, reduceIte, Nat.reduceAdd, Nat.reduceEqDiff, Nat.reduceMul]; rfl)) ?_
        refine c_val hP hn (by decide) ⟨_, rfl, by simp only [lk, reduceIte, Nat.reduceEqDiff]⟩ (e_eql (by simp only [St.look, St.ev, lk, mkM, blkOf, svOf, svOfCell, reduceIte, Nat.reduceAdd, Nat.reduceEqDiff, Nat.reduceMul]; rfl) (by simp only [St.look, St.ev, lk, mkM, blkOf, svOf, svOfCell, reduceIte, Nat.reduceAdd, Nat.reduceEqDiff, Nat.reduceMul]; rfl)) ?_
        refine c_val hP hn (by decide) trivial (e_pick (by simp only [St.look, St.ev, lk, mkM, blkOf, svOf, svOfCell, reduceIte, Nat.reduceAdd, Nat.reduceEqDiff, Nat.reduceMul]; rfl) (by simp only [St.look, St.ev, lk, mkM, blkOf, svOf, svOfCell, reduceIte, Nat.reduceAdd, Nat.reduceEqDiff, Nat.reduceMul]; rfl) (by simp only [St.look, St.ev, lk, mkM, blkOf, svOf, svOfCell, reduceIte, Nat.reduceAdd, Nat.reduceEqDiff, Nat.reduceMul]; rfl) (by simp only [pickSV, cond_true, cond_false]; rfl)) ?_
        refine c_split hP hn (by decide) trivial (e_move (by simp only [St.look, St.ev, lk, mkM, blkOf, svOf, svOfCell, reduceIte, Nat.reduceAdd, Nat.reduceEqDiff, Nat.reduceMul]; rfl)) (fun hg48 => ?_) (fun hg48 => ?_)
        rotate_left
        · exact absurd hg48 (by simp)
        refine c_val hP hn (by decide) ⟨_, rfl, by simp only [lk, reduceIte, Nat.reduceEqDiff]⟩ (e_move (by simp only [St.look, St.ev, lk, mkM, blkOf, svOf, svOfCell, reduceIte, Nat.reduceAdd, Nat.reduceEqDiff, Nat.reduceMul]; rfl)) ?_
        refine c_val hP hn (by decide) ⟨_, rfl, by simp only [lk, reduceIte, Nat.reduceEqDiff]⟩ (e_move (by simp only [St.look, St.ev, lk, mkM, blkOf, svOf, svOfCell, reduceIte, Nat.reduceAdd, Nat.reduceEqDiff, Nat.reduceMul]; rfl)) ?_
        refine c_val hP hn (by decide) ⟨_, rfl, by simp only [lk, reduceIte, Nat.reduceEqDiff]⟩ (e_eql (by simp only [St.look, St.ev, lk, mkM, blkOf, svOf, svOfCell, reduceIte, Nat.reduceAdd, Nat.reduceEqDiff, Nat.reduceMul]; rfl) (by simp only [St.look, St.ev, lk, mkM, blkOf, svOf, svOfCell, reduceIte, Nat.reduceAdd, Nat.reduceEqDiff, Nat.reduceMul]; rfl)) ?_
        refine c_val hP hn (by decide) trivial (e_pick (by simp only [St.look, St.ev, lk, mkM, blkOf, svOf, svOfCell, reduceIte, Nat.reduceAdd, Nat.reduceEqDiff, Nat.reduceMul]; rfl) (by simp only [St.look, St.ev, lk, mkM, blkOf, svOf, svOfCell, reduceIte, Nat.reduceAdd, Nat.reduceEqDiff, Nat.reduceMul]; rfl) (by simp only [St.look, St.ev, lk, mkM, blkOf, svOf, svOfCell, reduceIte, Nat.reduceAdd, Nat.reduceEqDiff, Nat.reduceMul]; rfl) (by simp only [pickSV, cond_true, cond_false]; rfl)) ?_
        refine c_split hP hn (by decide) trivial (e_move (by simp only [St.look, St.ev, lk, mkM, blkOf, svOf, svOfCell, reduceIte, Nat.reduceAdd, Nat.reduceEqDiff, Nat.reduceMul]; rfl)) (fun hg53 => ?_) (fun hg53 => ?_)
        rotate_left
        · exact absurd hg53 (by simp)
        refine c_callF hP hn (by decide) ⟨_, rfl, by simp only [lk, reduceIte, Nat.reduceEqDiff]⟩ (f18) (by simp only [List.map, St.look, St.ev, lk, mkM, blkOf, svOf, svOfCell, reduceIte, Nat.reduceAdd, Nat.reduceEqDiff, Nat.reduceMul]; rfl) (by repeat (first | exact args_nil | refine args_cons data_dv ?_)) (by first | exact res_one | exact res_two | exact res_three | exact res_rK1 (by simp only [mkM, reduceIte, Nat.reduceEqDiff]; rfl) | exact res_rK2 (by simp only [mkM, reduceIte, Nat.reduceEqDiff]; rfl) | exact res_rK3 (by simp only [mkM, reduceIte, Nat.reduceEqDiff]; rfl) | exact res_row rfl | exact res_rowdv rfl | exact res_rowdvdv rfl) ?_
        refine c_val hP hn (by decide) trivial (e_pick (by simp only [St.look, St.ev, lk, mkM, blkOf, svOf, svOfCell, reduceIte, Nat.reduceAdd, Nat.reduceEqDiff, Nat.reduceMul]; rfl) (by simp only [St.look, St.ev, lk, mkM, blkOf, svOf, svOfCell, reduceIte, Nat.reduceAdd, Nat.reduceEqDiff, Nat.reduceMul]; rfl) (by simp only [St.look, St.ev, lk, mkM, blkOf, svOf, svOfCell, reduceIte, Nat.reduceAdd, Nat.reduceEqDiff, Nat.reduceMul]; rfl) (by simp only [pickSV, cond_true, cond_false]; rfl)) ?_
        refine c_val hP hn (by decide) trivial (e_assign (by simp only [St.look, St.ev, lk, mkM, blkOf, svOf, svOfCell, reduceIte, Nat.reduceAdd, Nat.reduceEqDiff, Nat.reduceMul]; rfl)) ?_
        show AWp cx _ _ _
        refine awp_ret ?_
        exact end_dv (.inr rfl) (by simp [lk]) (.bool _)
end Go.Ab.Try
set_option linter.all false
namespace Go.Ab.Try
open Go Go.Ab Go.Proofs
end Go.Ab.Try
