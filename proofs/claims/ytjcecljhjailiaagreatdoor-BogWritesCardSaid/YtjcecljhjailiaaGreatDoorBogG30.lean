/- BogCs, BogN2, BogN3, BogN4, BogN5, BogN6, BogO1, BogO2. -/
import Derived.Test.YtjcecljhjailiaaGreatDoorBogG29
import Derived.Test.YtjcecljhjailiaaGreatDoorBogG29
import Derived.Test.YtjcecljhjailiaaGreatDoorBogG09
set_option linter.all false
namespace Go.Ab.Tryz
open Go Go.Ab Go.Proofs Go.Ab.Moss Go.Ab.Bog
theorem end_rowX {P : Program} {okd : DV → Prop} {S : St} {x : Exit} {t : Nat} {s1 : SV} {L : List Tx} (he : x = .normal ∨ x = .ret) (hs : S.F t = s1) (h1 : RetOk okd S.M s1 (rX L)) : EndK P okd [.tmp t] (.one (rX L)) x S :=
  end_one he hs h1 (.inr fun d hd => by cases hd)
theorem f105x (l : List Tx) (h : l.length < 1000000) (hl : l ≠ []) : ACallsF Tryz.prog 105 [txs l] (.one (rX l)) := by
  refine callsF_of Tryz.func105 rfl rfl (by rw [Tryz.ntmps105]; simp) fun cx hP hn hg => ?_
  rw [Tryz.ntmps105] at hn
  rw [startF_lk, none_mkM]
  simp only [zipSV, Nat.reduceAdd]
  refine awp_seq ?_
  refine awp_reg hg ?_
  refine c_val hP hn (by decide) trivial (e_assign (by simp only [St.look, St.ev, lk, mkM, blkOf, svOf, svOfCell, reduceIte, Nat.reduceAdd, Nat.reduceEqDiff, Nat.reduceMul]; rfl)) ?_
  show AWp cx _ _ _
  refine awp_seq ?_
  refine awp_seq ?_
  refine awp_reg hg ?_
  refine c_val hP hn (by decide) trivial (e_move (by simp only [St.look, St.ev, lk, mkM, blkOf, svOf, svOfCell, reduceIte, Nat.reduceAdd, Nat.reduceEqDiff, Nat.reduceMul]; rfl)) ?_
  refine c_val hP hn (by decide) trivial (by simp only [outOf, binSV, nilOf, nilCmp, il30, if_true, Option.map_some, St.look, St.ev, lk, mkM, blkOf, svOf, svOfCell, reduceIte, Nat.reduceAdd, Nat.reduceEqDiff, Nat.reduceMul]; rw [if_neg (by simpa using hl)]; rfl) ?_
  show AWp cx _ _ _
  refine awp_cond (by simp only [St.look, St.ev, lk, mkM, blkOf, svOf, svOfCell, reduceIte, Nat.reduceAdd, Nat.reduceEqDiff, Nat.reduceMul]; rfl) (fun hc0 => ?_) (fun hc0 => ?_)
  · exact absurd hc0 (by simp)
  refine awp_skip ?_
  show AWp cx _ _ _
  refine awp_seq ?_
  refine awp_reg hg ?_
  refine c_row hP hn (by decide) trivial (e_buildSlice (by simp only [List.map, St.look, St.ev, lk, mkM, blkOf, svOf, svOfCell, reduceIte, Nat.reduceAdd, Nat.reduceEqDiff, Nat.reduceMul]; rfl) el30 ze9 sz9 rfl (by decide) (by decide) (by simp [fillSV, putCells, cellsSV, List.replicate]; rfl)) rfl (by simp only [mkM, reduceIte, Nat.reduceEqDiff]; rfl) ?_
  refine c_val hP hn (by decide) trivial (e_move (by simp only [St.look, St.ev, lk, mkM, blkOf, svOf, svOfCell, reduceIte, Nat.reduceAdd, Nat.reduceEqDiff, Nat.reduceMul]; rfl)) ?_
  first
  | refine c_app0 hP hn (by decide) trivial (e_app0 (by simp only [St.look, St.ev, lk, mkM, blkOf, svOf, svOfCell, reduceIte, Nat.reduceAdd, Nat.reduceEqDiff, Nat.reduceMul]; rfl) (by simp only [St.look, St.ev, lk, mkM, blkOf, svOf, svOfCell, reduceIte, Nat.reduceAdd, Nat.reduceEqDiff, Nat.reduceMul]; first | exact src_txs | rfl | (simp [srcSV, cellOk]; rfl)) el30 el30 ze9 sz9 by9 (by first | omega | (simp; try omega)) (by first | omega | (simp; try omega)) rfl) (by simp only [mkM, reduceIte, Nat.reduceEqDiff]; rfl) ?_
  | refine c_app1 hP hn (by decide) trivial (e_app1 (by simp only [St.look, St.ev, lk, mkM, blkOf, svOf, svOfCell, reduceIte, Nat.reduceAdd, Nat.reduceEqDiff, Nat.reduceMul]; rfl) (by simp only [St.look, St.ev, lk, mkM, blkOf, svOf, svOfCell, reduceIte, Nat.reduceAdd, Nat.reduceEqDiff, Nat.reduceMul]; first | exact src_txs | rfl | (simp [srcSV, cellOk]; rfl)) el30 el30 ze9 sz9 by9 (by rfl) (by rfl) (by rfl) (by first | omega | (simp; try omega)) (by first | omega | (simp; try omega)) (by first | omega | (simp; try omega)) rfl (by first | exact tx_snoc | exact tx_app | rfl)) (by simp only [mkM, reduceIte, Nat.reduceEqDiff]; rfl) (by simp only [mkM, reduceIte, Nat.reduceEqDiff]; rfl) rfl ?_
  refine c_val hP hn (by decide) trivial (e_assign (by simp only [St.look, St.ev, lk, mkM, blkOf, svOf, svOfCell, reduceIte, Nat.reduceAdd, Nat.reduceEqDiff, Nat.reduceMul]; rfl)) ?_
  show AWp cx _ _ _
  refine awp_ret ?_
  exact end_rowX (.inr rfl) (by first | (simp only [lk, reduceIte, Nat.reduceEqDiff]; done) | (simp only [lk, reduceIte, Nat.reduceEqDiff]; rfl)) (retOk_rX (by simp only [mkM, reduceIte, Nat.reduceEqDiff]; rfl) (by simp))
theorem f105n : ACallsF Tryz.prog 105 [txs []] (.one (rX [])) := by
  refine callsF_of Tryz.func105 rfl rfl (by rw [Tryz.ntmps105]; simp) fun cx hP hn hg => ?_
  rw [Tryz.ntmps105] at hn
  rw [startF_lk, none_mkM]
  simp only [zipSV, Nat.reduceAdd]
  refine AWp.split (t := 0) (by simp [lk]) fun b => ?_
  cases b
  · skip
    refine awp_seq ?_
    refine awp_reg hg ?_
    refine c_val hP hn (by decide) trivial (e_assign (by simp only [St.look, St.ev, lk, mkM, blkOf, svOf, svOfCell, reduceIte, Nat.reduceAdd, Nat.reduceEqDiff, Nat.reduceMul]; rfl)) ?_
    show AWp cx _ _ _
    refine awp_seq ?_
    refine awp_seq ?_
    refine awp_reg hg ?_
    refine c_val hP hn (by decide) trivial (e_move (by simp only [St.look, St.ev, lk, mkM, blkOf, svOf, svOfCell, reduceIte, Nat.reduceAdd, Nat.reduceEqDiff, Nat.reduceMul]; rfl)) ?_
    refine c_val hP hn (by decide) trivial (by simp only [outOf, binSV, nilOf, nilCmp, il30, if_true, Option.map_some, St.look, St.ev, lk, mkM, blkOf, svOf, svOfCell, reduceIte, Nat.reduceAdd, Nat.reduceEqDiff, Nat.reduceMul]; rfl) ?_
    show AWp cx _ _ _
    refine awp_cond (by simp only [St.look, St.ev, lk, mkM, blkOf, svOf, svOfCell, reduceIte, Nat.reduceAdd, Nat.reduceEqDiff, Nat.reduceMul]; rfl) (fun hc0 => ?_) (fun hc0 => ?_)
    · exact absurd hc0 (by simp)
    refine awp_skip ?_
    show AWp cx _ _ _
    refine awp_seq ?_
    refine awp_reg hg ?_
    refine c_row hP hn (by decide) trivial (e_buildSlice (by simp only [List.map, St.look, St.ev, lk, mkM, blkOf, svOf, svOfCell, reduceIte, Nat.reduceAdd, Nat.reduceEqDiff, Nat.reduceMul]; rfl) el30 ze9 sz9 rfl (by decide) (by decide) (by simp [fillSV, putCells, cellsSV, List.replicate]; rfl)) rfl (by simp only [mkM, reduceIte, Nat.reduceEqDiff]; rfl) ?_
    refine c_val hP hn (by decide) trivial (e_move (by simp only [St.look, St.ev, lk, mkM, blkOf, svOf, svOfCell, reduceIte, Nat.reduceAdd, Nat.reduceEqDiff, Nat.reduceMul]; rfl)) ?_
    first
    | refine c_app0 hP hn (by decide) trivial (e_app0 (by simp only [St.look, St.ev, lk, mkM, blkOf, svOf, svOfCell, reduceIte, Nat.reduceAdd, Nat.reduceEqDiff, Nat.reduceMul]; rfl) (by simp only [St.look, St.ev, lk, mkM, blkOf, svOf, svOfCell, reduceIte, Nat.reduceAdd, Nat.reduceEqDiff, Nat.reduceMul]; first | exact src_txs | rfl | (simp [srcSV, cellOk]; rfl)) el30 el30 ze9 sz9 by9 (by first | omega | (simp; try omega)) (by first | omega | (simp; try omega)) rfl) (by simp only [mkM, reduceIte, Nat.reduceEqDiff]; rfl) ?_
    | refine c_app1 hP hn (by decide) trivial (e_app1 (by simp only [St.look, St.ev, lk, mkM, blkOf, svOf, svOfCell, reduceIte, Nat.reduceAdd, Nat.reduceEqDiff, Nat.reduceMul]; rfl) (by simp only [St.look, St.ev, lk, mkM, blkOf, svOf, svOfCell, reduceIte, Nat.reduceAdd, Nat.reduceEqDiff, Nat.reduceMul]; first | exact src_txs | rfl | (simp [srcSV, cellOk]; rfl)) el30 el30 ze9 sz9 by9 (by rfl) (by rfl) (by rfl) (by first | omega | (simp; try omega)) (by first | omega | (simp; try omega)) (by first | omega | (simp; try omega)) rfl (by first | exact tx_snoc | exact tx_app | rfl)) (by simp only [mkM, reduceIte, Nat.reduceEqDiff]; rfl) (by simp only [mkM, reduceIte, Nat.reduceEqDiff]; rfl) rfl ?_
    refine c_val hP hn (by decide) trivial (e_assign (by simp only [St.look, St.ev, lk, mkM, blkOf, svOf, svOfCell, reduceIte, Nat.reduceAdd, Nat.reduceEqDiff, Nat.reduceMul]; rfl)) ?_
    show AWp cx _ _ _
    refine awp_ret ?_
    exact end_rowX (.inr rfl) (by first | (simp only [lk, reduceIte, Nat.reduceEqDiff]; done) | (simp only [lk, reduceIte, Nat.reduceEqDiff]; rfl)) (retOk_rX (by simp only [mkM, reduceIte, Nat.reduceEqDiff]; rfl) (by simp))
  · skip
    refine awp_seq ?_
    refine awp_reg hg ?_
    refine c_val hP hn (by decide) trivial (e_assign (by simp only [St.look, St.ev, lk, mkM, blkOf, svOf, svOfCell, reduceIte, Nat.reduceAdd, Nat.reduceEqDiff, Nat.reduceMul]; rfl)) ?_
    show AWp cx _ _ _
    refine awp_seq ?_
    refine awp_seq ?_
    refine awp_reg hg ?_
    refine c_val hP hn (by decide) trivial (e_move (by simp only [St.look, St.ev, lk, mkM, blkOf, svOf, svOfCell, reduceIte, Nat.reduceAdd, Nat.reduceEqDiff, Nat.reduceMul]; rfl)) ?_
    refine c_val hP hn (by decide) trivial (by simp only [outOf, binSV, nilOf, nilCmp, il30, if_true, Option.map_some, St.look, St.ev, lk, mkM, blkOf, svOf, svOfCell, reduceIte, Nat.reduceAdd, Nat.reduceEqDiff, Nat.reduceMul]; rfl) ?_
    show AWp cx _ _ _
    refine awp_cond (by simp only [St.look, St.ev, lk, mkM, blkOf, svOf, svOfCell, reduceIte, Nat.reduceAdd, Nat.reduceEqDiff, Nat.reduceMul]; rfl) (fun hc0 => ?_) (fun hc0 => ?_)
    rotate_left
    · exact absurd hc0 (by simp)
    refine awp_seq ?_
    refine awp_reg hg ?_
    refine c_val hP hn (by decide) trivial (e_assign (by simp only [St.look, St.ev, lk, mkM, blkOf, svOf, svOfCell, reduceIte, Nat.reduceAdd, Nat.reduceEqDiff, Nat.reduceMul]; rfl)) ?_
    show AWp cx _ _ _
    refine awp_ret ?_
    exact end_rowX (.inr rfl) (by first | (simp only [lk, reduceIte, Nat.reduceEqDiff]; done) | (simp only [lk, reduceIte, Nat.reduceEqDiff]; rfl)) retOk_nil
theorem f105 (l : List Tx) (h : l.length < 1000000) : ACallsF Tryz.prog 105 [txs l] (.one (rX l)) := by
  by_cases hl : l = []
  · subst hl; exact f105n
  · exact f105x l h hl
end Go.Ab.Tryz
set_option linter.all false
namespace Go.Ab.Tryz
open Go Go.Ab Go.Proofs Go.Ab.Moss Go.Ab.Bog
open Go.Ab.Heap (ata ata_get ata_set)
open Go.Ab.Heap (Hp)
structure Fm where
  bog : Bg
  heaps : Hp
  need : Int
abbrev dFm (f : Fm) : DV := .agg [.list (f.bog.worth.map ints), .list (f.heaps.links.map ints), ints f.heaps.ground, i64 f.need]
end Go.Ab.Tryz
set_option linter.all false
namespace Go.Ab.Tryz
open Go Go.Ab Go.Proofs Go.Ab.Moss Go.Ab.Bog
open Go.Ab.Heap (ata ata_get ata_set)
end Go.Ab.Tryz
set_option linter.all false
namespace Go.Ab.Tryz
open Go Go.Ab Go.Proofs Go.Ab.Moss Go.Ab.Bog
open Go.Ab.Heap (ata ata_get ata_set)
open H (rowB data_rowsB)
open Go.Ab.Heap (Hp)
def two : Fm := ⟨⟨[[1, 2], [3, 4]]⟩, ⟨[[0, 1], [1, 0]], [1, 1]⟩, 2⟩
theorem f61 : ACalls Tryz.prog 61 [] (.one (.dv (dFm two))) := by
  refine callsA_of Tryz.func61 rfl rfl (by rw [Tryz.ntmps61]; simp) fun cx hP hn hg => ?_
  rw [Tryz.ntmps61] at hn
  rw [startF_lk, none_mkM]
  simp only [List.nil_append, List.append_nil, List.cons_append, zipSV, Nat.reduceAdd]
  refine awp_seq ?_
  refine rg ?_
  refine qp (m_al ze29) ?_
  show AWp cx _ _ _
  refine awp_seq ?_
  refine rg ?_
  refine qr (m_bsl el25 ze3 sz3) ?_
  refine ch_told 1 1 (x := ints [1, 2]) ?_ (hD := (data_ints (L := [1, 2]) (by simp only [mkM, reduceIte, Nat.reduceEqDiff] <;> rfl) rfl rfl rfl rfl (fun _ => trivial)))
  refine qr (m_bsl el25 ze3 sz3) ?_
  refine ch_told 2 2 (x := ints [3, 4]) ?_ (hD := (data_ints (L := [3, 4]) (by simp only [mkM, reduceIte, Nat.reduceEqDiff] <;> rfl) rfl rfl rfl rfl (fun _ => trivial)))
  refine qr (m_bsl el22 ze25 sz25) ?_
  refine ch_told 3 3 (x := .list (([[1, 2], [3, 4]] : List (List Int)).map ints)) ?_ (hD := Heap.data_cells (l := ([[1, 2], [3, 4]] : List (List Int)).map ints) (by simp only [mkM, reduceIte, Nat.reduceEqDiff] <;> rfl) rfl rfl (fun d hd => by simp at hd; rcases hd with rfl | rfl <;> rfl) (args_cons (.dv _ trivial) (args_cons (.dv _ trivial) args_nil)))
  refine qv (m_bld pl24 ze24) ?_
  refine qr (m_bsl el25 ze3 sz3) ?_
  refine ch_told 5 5 (x := ints [0, 1]) ?_ (hD := (data_ints (L := [0, 1]) (by simp only [mkM, reduceIte, Nat.reduceEqDiff] <;> rfl) rfl rfl rfl rfl (fun _ => trivial)))
  refine qr (m_bsl el25 ze3 sz3) ?_
  refine ch_told 6 6 (x := ints [1, 0]) ?_ (hD := (data_ints (L := [1, 0]) (by simp only [mkM, reduceIte, Nat.reduceEqDiff] <;> rfl) rfl rfl rfl rfl (fun _ => trivial)))
  refine qr (m_bsl el22 ze25 sz25) ?_
  refine ch_told 7 7 (x := .list (([[0, 1], [1, 0]] : List (List Int)).map ints)) ?_ (hD := Heap.data_cells (l := ([[0, 1], [1, 0]] : List (List Int)).map ints) (by simp only [mkM, reduceIte, Nat.reduceEqDiff] <;> rfl) rfl rfl (fun d hd => by simp at hd; rcases hd with rfl | rfl <;> rfl) (args_cons (.dv _ trivial) (args_cons (.dv _ trivial) args_nil)))
  refine qr (m_bsl el25 ze3 sz3) ?_
  refine ch_told 8 8 (x := ints [1, 1]) ?_ (hD := (data_ints (L := [1, 1]) (by simp only [mkM, reduceIte, Nat.reduceEqDiff] <;> rfl) rfl rfl rfl rfl (fun _ => trivial)))
  refine qv (m_bld pl27 ze27) ?_
  refine qv (m_bld pl29 ze29) ?_
  refine qs (m_st sz29) ?_
  show AWp cx _ _ _
  refine awp_ret ?_
  exact Heap.end_cell (.inr rfl) (s1 := .dv (dFm two)) (by simp only [loadSV, sz29, ag29, St.look, St.ev, lk, mkM, blkOf, svOf, svOfCell, reduceIte, Nat.reduceAdd, Nat.reduceEqDiff, Nat.reduceMul]; rfl) (.dv _ trivial)
end Go.Ab.Tryz
set_option linter.all false
namespace Go.Ab.Tryz
open Go Go.Ab Go.Proofs Go.Ab.Moss Go.Ab.Bog
open Go.Ab.Heap (ata ata_get ata_set)
open Go.Ab.Heap (Hp dHp validate)
def mwOf (b : Bg) (n : Int) : Mw := ⟨(b.dep : Int), (b.worth.length : Int), n⟩
def newE (b : Bg) (h : Hp) (n : Int) : Int :=
  if bgV b ≠ 0 then bgV b else if validate h ≠ 0 then validate h else if h.ground.length ≠ b.worth.length then 1 else valid (mwOf b n)
end Go.Ab.Tryz
set_option linter.all false
namespace Go.Ab.Tryz
open Go Go.Ab Go.Proofs Go.Ab.Moss Go.Ab.Bog
open Go.Ab.Heap (ata ata_get ata_set)
open Go.Ab.Heap (Hp dHp validate)
structure Cs where
  day : Int
  hollow : List Int
  turves : List Int
  wet : Nat
  money : Int
  cut : Int
  loaded : Int
  shut : Bool
  orders : List Tx
abbrev coCells (b : Bg) (h : Hp) (n : Int) (c : Cs) (s : Int) : List SV := [.dv (.int .i32 s), .dv (.int .u32 0), .dv (.list (b.worth.map ints)), .dv (.list (h.links.map ints)), .dv (ints h.ground), .dv (i64 (b.dep : Int)), .dv (i64 (b.worth.length : Int)), .dv (i64 n),
  .dv (i64 c.day), .dv (ints c.hollow), .dv (ints c.turves), .dv (i64 (c.wet : Int)), .dv (i64 c.money), .dv (i64 c.cut), .dv (i64 c.loaded), .dv (.bool c.shut), .sl 100001 0 0 c.orders.length]
abbrev coBlk (b : Bg) (h : Hp) (n : Int) (c : Cs) : Blk := ⟨coCells b h n c 0, 0, 100, 0, false⟩
def cs0 (k : Nat) : Cs := ⟨0, List.replicate k 0, List.replicate k 0, 0, 0, 0, 0, false, []⟩
theorem newE_0 {b : Bg} {h : Hp} {n : Int} (hE : newE b h n = 0) : bgV b = 0 ∧ validate h = 0 ∧ h.ground.length = b.worth.length ∧ valid (mwOf b n) = 0 := by
  unfold newE at hE
  split at hE
  · rename_i h1; exact absurd hE h1
  · rename_i h1
    split at hE
    · rename_i h2; exact absurd hE h2
    · rename_i h2
      split at hE
      · cases hE
      · rename_i h3; exact ⟨by simpa using h1, by simpa using h2, by simpa using h3, hE⟩
set_option maxHeartbeats 2000000 in
theorem f59_ok (b : Bg) (h : Hp) (n : Int) (hE : newE b h n = 0) : ACallsG Tryz.prog 59 [.dv (dBg b), .dv (dHp h), .dv (i64 n)] (mkB []) ⟨[.pt 100000 0 0, .dv (i64 0)], mkB [(100000, coBlk b h n (cs0 b.worth.length)), (100001, rowX [])]⟩ := by
  obtain ⟨hv, hw, hl, hm⟩ := newE_0 hE
  have ok := bgV_0 hv
  have hn0 := ok.n0
  have hn6 := ok.n6
  have hd4 := ok.d4
  have hg0 := bg_col hn0
  have hh := H.validate_n hw
  have hr1 : ∀ i (hi : i < b.worth.length), b.worth[i].length < 1000000 := fun i hi => by
    have := ok.len i hi
    have e : b.col i = b.worth[i] := Option.some.inj ((bg_col hi).symm.trans (List.getElem?_eq_getElem hi))
    rw [e] at this; omega
  have vh := Heap.vh_of hw
  have hll := vh.len
  have hr2 : ∀ i (hi : i < h.links.length), h.links[i].length < 1000000 := fun i hi => by
    have h1 := vh.row i (by omega)
    have e := H.lget vh.len (i := i) (by omega)
    rw [List.getElem?_eq_getElem hi] at e
    rw [Option.some.inj e]; omega
  refine callsG_of Tryz.func59 rfl rfl (by rw [Tryz.ntmps59]; simp) fun cx hP hn hg => ?_
  rw [Tryz.ntmps59] at hn
  refine startG ?_
  refine awp_seq ?_
  refine rg ?_
  refine qp m_box ?_
  refine qp m_box ?_
  refine qv m_as ?_
  refine qv m_as ?_
  show AWp cx _ _ _
  refine awp_seq ?_
  refine awp_seq ?_
  refine rg ?_
  refine qv (m_ldpa sz24 ag24) ?_
  refine qqF (f93 b) ?_
  refine qv m_as ?_
  show AWp cx _ _ _
  refine awp_seq ?_
  refine rg ?_
  refine qv m_mv ?_
  refine qv m_neq ?_
  show AWp cx _ _ _
  refine cdF (hb := (by simp [hv])) (ht := ?_)
  refine awp_skip ?_
  show AWp cx _ _ _
  refine awp_seq ?_
  refine awp_seq ?_
  refine rg ?_
  refine qv (m_ldpa sz27 ag27) ?_
  refine qqF (H.f94 h) ?_
  refine qv m_as ?_
  show AWp cx _ _ _
  refine awp_seq ?_
  refine rg ?_
  refine qv m_mv ?_
  refine qv m_neq ?_
  show AWp cx _ _ _
  refine cdF (hb := (by simp [hw])) (ht := ?_)
  refine awp_skip ?_
  show AWp cx _ _ _
  refine awp_seq ?_
  refine rg ?_
  refine qv (m_fdp fd24_0) ?_
  refine qv (m_ldp sz22 ag22) ?_
  refine qv (m_len il22) ?_
  refine qv m_as ?_
  show AWp cx _ _ _
  refine awp_seq ?_
  refine awp_seq ?_
  refine rg ?_
  refine qv (m_fdp fd27_1) ?_
  refine qv (m_ldp sz25 ag25) ?_
  refine qv (m_len il25) ?_
  refine qv m_mv ?_
  refine qv m_neq ?_
  show AWp cx _ _ _
  refine cdF (hb := (by simp [hl])) (ht := ?_)
  refine awp_skip ?_
  show AWp cx _ _ _
  refine awp_seq ?_
  refine rg ?_
  refine qv (m_fdp fd24_0) ?_
  refine qv (m_ldp sz22 ag22) ?_
  first | refine qv (m_ixN el22 sz25) ?_ | refine qv (m_ix el22 sz25) ?_
  refine qv (m_ld sz25 ag25) ?_
  refine qv (m_len il25) ?_
  refine qv m_mv ?_
  refine qv m_mv ?_
  refine qv (m_bld pl65 ze65) ?_
  refine qp (m_al ze65) ?_
  refine qs (m_st sz65) ?_
  show AWp cx _ _ _
  refine awp_seq ?_
  refine awp_seq ?_
  refine rg ?_
  refine qv (m_ldpa sz65 ag65) ?_
  refine qqF (f95 (mwOf b n)) ?_
  refine qv m_as ?_
  show AWp cx _ _ _
  refine awp_seq ?_
  refine rg ?_
  refine qv m_mv ?_
  refine qv m_neq ?_
  show AWp cx _ _ _
  refine cdF (hb := (by simp [hm])) (ht := ?_)
  refine awp_skip ?_
  show AWp cx _ _ _
  refine awp_seq ?_
  refine rd mixed ?_
  refine zv (m_fdp fd24_0) ?_
  refine zv (m_ldp sz22 ag22) ?_
  refine zqA (R := []) (f96 b.worth (by omega) hr1) ?_
  refine zv (m_bld pl24 ze24) ?_
  refine zv (m_fdp fd27_0) ?_
  refine zv (m_ldp sz22 ag22) ?_
  refine zqA (R := []) (f96 h.links (by omega) hr2) ?_
  refine zv (m_fdp fd27_1) ?_
  refine zv (m_ldp sz25 ag25) ?_
  refine zqF (R := []) (f97 h.ground (by omega)) ?_
  refine zv (m_bld pl27 ze27) ?_
  refine zv (m_ldpa sz65 ag65) ?_
  refine zv m_mv ?_
  refine zr (m_mkI el25 ze3 sz3 by3) ?_
  refine zv m_mv ?_
  refine zr (m_mkI el25 ze3 sz3 by3) ?_
  refine zv (m_bld pl98 ze98) ?_
  refine zv (m_bld pl100 ze100) ?_
  refine zp m_box ?_
  refine zv m_as ?_
  refine zv m_as ?_
  refine ⟨by rfl, ?_⟩
  show AWp cx _ _ _
  refine awp_frz 53 ?_
  refine awp_frz 57 ?_
  refine awp_frz 59 ?_
  refine awp_ret ?_
  exact xg [(100000, 62)] (h2 := by
    simp [MLe, blkLe, svLes, svLe, isLive, tauL, mkB, mkM, frzF, svLes_ints, svLes_self, isDvs, isDvs_map, isDvs_app, isDvs_take, isDvs_set, isDvs_repl, OwS]
    repeat' (first | rfl | exact data_ints (L := h.ground) rfl rfl rfl rfl rfl (fun _ => trivial) | exact data_ints (L := List.replicate b.worth.length 0) rfl rfl (by simp) rfl (by simp) (fun _ => trivial) | refine And.intro ?_ ?_))
end Go.Ab.Tryz
set_option linter.all false
namespace Go.Ab.Tryz
open Go Go.Ab Go.Proofs Go.Ab.Moss Go.Ab.Bog
open Go.Ab.Heap (ata ata_get ata_set)
open Go.Ab.Heap (Hp dHp validate)
abbrev coD (b : Bg) (h : Hp) (n : Int) (c : Cs) (s : Int) : List DV := [.int .i32 s, .int .u32 0, .list (b.worth.map ints), .list (h.links.map ints), ints h.ground, i64 (b.dep : Int), i64 (b.worth.length : Int), i64 n,
  i64 c.day, ints c.hollow, ints c.turves, i64 (c.wet : Int), i64 c.money, i64 c.cut, i64 c.loaded, .bool c.shut]
def sqN (b : Bg) (r k : Nat) : Nat := 2 ^ (r * b.worth.length + k)
def colB (b : Bg) (k : Nat) : Nat → Nat
  | 0 => 0
  | r + 1 => colB b k r ||| sqN b r k
def bareN (b : Bg) (l : List Int) : Nat → Nat
  | 0 => 0
  | k + 1 => bareN b l k ||| colB b k (ata l k).toNat
theorem sq_bit {b : Bg} (ok : BgOk b) {r k : Nat} (hr : r < b.dep) (hk : k < b.worth.length) : r * b.worth.length + k < 24 := by
  have h1 := ok.n6
  have h2 := ok.d4
  have : (r + 1) * b.worth.length ≤ 4 * 6 := Nat.mul_le_mul (by omega) h1
  rw [Nat.add_mul] at this
  omega
theorem sq_lt {b : Bg} (ok : BgOk b) {r k : Nat} (hr : r < b.dep) (hk : k < b.worth.length) : sqN b r k < 16777216 := by
  have := Nat.pow_lt_pow_right (a := 2) (by decide) (sq_bit ok hr hk)
  exact this
theorem or24 {x y : Nat} (hx : x < 16777216) (hy : y < 16777216) : x ||| y < 16777216 := Nat.or_lt_two_pow (n := 24) hx hy
theorem colB_lt {b : Bg} (ok : BgOk b) {k : Nat} (hk : k < b.worth.length) : ∀ r, r ≤ b.dep → colB b k r < 16777216
  | 0, _ => by simp [colB]
  | r + 1, h => or24 (colB_lt ok hk r (by omega)) (sq_lt ok (by omega) hk)
theorem bare_lt {b : Bg} {l : List Int} (ok : LsOk b l) : ∀ k, k ≤ l.length → bareN b l k < 16777216
  | 0, _ => by simp [bareN]
  | k + 1, h => or24 (bare_lt ok k (by omega)) (colB_lt ok.bg (by rw [← ok.len]; omega) _ (by have := ok.bd k (by omega); omega))
theorem f90 (b : Bg) (ok : BgOk b) (h : Hp) (n : Int) (c : Cs) (s : Int) (r k : Nat) (hr : r < b.dep) (hk : k < b.worth.length) : ACallsF Tryz.prog 90 [.cptr (coD b h n c s), i64 (r : Int), i64 (k : Int)] (.one (.dv (i64 (sqN b r k : Nat)))) := by
  have hb := sq_bit ok hr hk
  have h6 := ok.n6
  have hmul : r * b.worth.length < 24 := by omega
  refine callsF_of Tryz.func90 rfl rfl (by rw [Tryz.ntmps90]; simp) fun cx hP hn hg => ?_
  rw [Tryz.ntmps90] at hn
  rw [startF_lk, none_mkM]
  simp only [List.nil_append, List.append_nil, List.cons_append, zipSV, Nat.reduceAdd]
  refine awp_seq ?_
  refine rg ?_
  refine qv m_as ?_
  show AWp cx _ _ _
  refine awp_seq ?_
  refine rg ?_
  refine qv m_mv ?_
  refine qv m_mv ?_
  refine qv m_nc ?_
  first | refine qv (m_fd fd100_3) ?_ | refine qv (m_fdp fd100_3) ?_
  first | refine qv (m_fd fd65_1) ?_ | refine qv (m_fdp fd65_1) ?_
  first | refine qv (m_ld sz3 ag3) ?_ | refine qv (m_ldp sz3 ag3) ?_
  refine qv m_mulN ?_
  refine qv m_mv ?_
  refine qv m_addN ?_
  refine qv (m_shlS (r * b.worth.length + k)) ?_
  refine qv m_as ?_
  show AWp cx _ _ _
  refine awp_ret ?_
  exact x1 (hr := (rI_ (by simp [sqN])))
end Go.Ab.Tryz
set_option linter.all false
namespace Go.Ab.Tryz
open Go Go.Ab Go.Proofs Go.Ab.Moss Go.Ab.Bog
open Go.Ab.Heap (ata ata_get ata_set)
open Go.Ab.Heap (Hp dHp validate)
theorem f151 (b : Bg) (h : Hp) (n : Int) (c : Cs) (s : Int) (ok : LsOk b c.hollow) : ACallsF Tryz.prog 151 [.cptr (coD b h n c s)] (.one (.dv (i64 (bareN b c.hollow c.hollow.length : Nat)))) := by
  have hn6 := ok.bg.n6
  have hd4 := ok.bg.d4
  have hle := ok.len
  refine callsF_of Tryz.func151 rfl rfl (by rw [Tryz.ntmps151]; simp) fun cx hP hn hg => ?_
  rw [Tryz.ntmps151] at hn
  rw [startF_lk, none_mkM]
  simp only [List.nil_append, List.append_nil, List.cons_append, zipSV, Nat.reduceAdd]
  refine awp_seq ?_
  refine rg ?_
  refine qv m_as ?_
  show AWp cx _ _ _
  refine awp_seq ?_
  refine rg ?_
  refine qv m_as ?_
  show AWp cx _ _ _
  refine awp_seq ?_
  refine awp_seq ?_
  refine rg ?_
  refine qv m_mv ?_
  refine qv m_nc ?_
  first | refine qv (m_fd fd100_4) ?_ | refine qv (m_fdp fd100_4) ?_
  first | refine qv (m_fd fd98_1) ?_ | refine qv (m_fdp fd98_1) ?_
  first | refine qv (m_ld sz25 ag25) ?_ | refine qv (m_ldp sz25 ag25) ?_
  refine qv (m_len il25) ?_
  refine qv m_mv ?_
  show AWp cx _ _ _
  refine awp_block ?_
  refine awp_loop (ι := Nat) (fun i => ⟨lk [(0, .dv (.cptr (coD b h n c s))), (3, .dv (i64 (bareN b c.hollow i : Nat))), (11, .dv (ints (c.hollow))), (12, .dv (i64 ((c.hollow.length : Int)))), (13, .dv (i64 (i : Nat)))], mkM []⟩) (fun i => i ≤ c.hollow.length) (fun i => c.hollow.length - i) 0 (by simp) (tl [] (hF := by simp [FLe, svLe, lk, mkM, isLive, tauL, bareN]) (hM := by simp [MLe, blkLe, svLe, svLes, lk, mkM, isLive, tauL, svLes_ints, svLes_self, isDvs, isDvs_map, isDvs_app, isDvs_take, isDvs_set, isDvs_repl, bareN])) ?_
  intro i hφ0
  refine awp_seq ?_
  refine rg ?_
  refine qv m_lss ?_
  show AWp cx _ _ _
  refine awp_seq ?_
  refine cd (fun hc0 => ?_) (fun hc0 => ?_)
  · try simp at hc0
    refine awp_skip ?_
    show AWp cx _ _ _
    refine awp_seq ?_
    refine awp_block ?_
    refine awp_seq ?_
    refine rg ?_
    have hi : i < c.hollow.length := by omega
    have hgi := ata_get hi
    have hbi := ok.bd i hi
    obtain ⟨k, hk⟩ : ∃ k : Nat, ata c.hollow i = k := ⟨(ata c.hollow i).toNat, by omega⟩
    rw [hk] at hgi hbi
    have hb24 := bare_lt ok i (by omega)
    refine qv m_mv ?_
    first | refine qv (m_ixN el25 sz3) ?_ | refine qv (m_ix el25 sz3) ?_
    refine qv (m_ld sz3 ag3) ?_
    refine qv m_as ?_
    refine qv m_as ?_
    show AWp cx _ _ _
    refine awp_seq ?_
    refine rg ?_
    refine qv m_mv ?_
    refine qv m_mv ?_
    show AWp cx _ _ _
    refine awp_block ?_
    refine awp_loop (ι := Nat) (fun q => ⟨lk [(0, .dv (.cptr (coD b h n c s))), (3, .dv (i64 (bareN b c.hollow i ||| colB b i q : Nat))), (4, .dv (i64 (i : Nat))), (11, .dv (ints (c.hollow))), (12, .dv (i64 ((c.hollow.length : Int)))), (13, .dv (i64 (i : Nat))), (18, .dv (i64 ((k : Int)))), (19, .dv (i64 (q : Nat)))], mkM []⟩) (fun q => q ≤ k) (fun q => k - q) 0 (by simp) (tl [] (hF := by simp [FLe, svLe, lk, mkM, isLive, tauL, colB]) (hM := by simp [MLe, blkLe, svLe, svLes, lk, mkM, isLive, tauL, svLes_ints, svLes_self, isDvs, isDvs_map, isDvs_app, isDvs_take, isDvs_set, isDvs_repl, colB])) ?_
    intro q hφ1
    refine awp_seq ?_
    refine rg ?_
    refine qv m_lss ?_
    show AWp cx _ _ _
    refine awp_seq ?_
    refine cd (fun hc1 => ?_) (fun hc1 => ?_)
    · try simp at hc1
      refine awp_skip ?_
      show AWp cx _ _ _
      refine awp_seq ?_
      refine awp_block ?_
      refine awp_seq ?_
      refine rg ?_
      have hq : q < k := by omega
      have hc24 := colB_lt ok.bg (k := i) (by omega) q (by omega)
      have hs24 := sq_lt ok.bg (r := q) (k := i) (by omega) (by omega)
      have ho24 := or24 hb24 hc24
      have hqs : bareN b c.hollow i ||| colB b i (q + 1) = (bareN b c.hollow i ||| colB b i q) ||| sqN b q i := by simp only [colB, Nat.or_assoc]
      refine qv m_mv ?_
      refine qv m_as ?_
      show AWp cx _ _ _
      refine rg ?_
      refine qv m_mv ?_
      refine qv m_mv ?_
      refine qv m_mv ?_
      refine qv m_mv ?_
      refine qqF (f90 b ok.bg h n c s q i (by omega) (by omega)) ?_
      refine qv (m_orS (ha := by omega) (hb := by omega)) ?_
      refine qv m_as ?_
      show AWp cx _ _ _
      refine rg ?_
      refine qv m_add ?_
      refine qv m_mv ?_
      exact ⟨q + 1, hq, (by simp only; omega), (tl [] (hF := by simp [FLe, svLe, lk, mkM, isLive, tauL, hqs]) (hM := by simp [MLe, blkLe, svLe, svLes, lk, mkM, isLive, tauL, svLes_ints, svLes_self, isDvs, isDvs_map, isDvs_app, isDvs_take, isDvs_set, isDvs_repl, hqs]))⟩
    · try simp at hc1
      obtain rfl : q = k := by omega
      have hbs : bareN b c.hollow (i + 1) = bareN b c.hollow i ||| colB b i q := by simp only [bareN]; rw [hk]; rfl
      refine awp_exit ?_
      show AWp cx _ _ _
      refine rg ?_
      refine qv m_add ?_
      refine qv m_mv ?_
      exact ⟨i + 1, hi, (by simp only; omega), (tl [] (hF := by simp [FLe, svLe, lk, mkM, isLive, tauL, hbs]) (hM := by simp [MLe, blkLe, svLe, svLes, lk, mkM, isLive, tauL, svLes_ints, svLes_self, isDvs, isDvs_map, isDvs_app, isDvs_take, isDvs_set, isDvs_repl, hbs]))⟩
  · try simp at hc0
    refine awp_exit ?_
    show AWp cx _ _ _
    refine awp_seq ?_
    refine rg ?_
    refine qv m_mv ?_
    refine qv m_as ?_
    show AWp cx _ _ _
    refine awp_ret ?_
    obtain rfl : i = c.hollow.length := by omega
    exact x1 (hr := (rI_))
end Go.Ab.Tryz
