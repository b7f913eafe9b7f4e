/- Ab48, Ab49, Ab50. -/
import Derived.Test.YtjipgkhfbfpacaaDoorAbF
import Derived.Test.YtjipgkhfbfpacaaDoorAbI
set_option linter.all false
namespace Go.Ab
open Go.RowKit
theorem rep_str {w : World} {X : Nat → Prop} {s : ByteArray} {v : Value} (h : RepD w X (.str s) v) : v = .string s := by cases h; rfl
theorem rep_int {w : World} {X : Nat → Prop} {k : IntKind} {n : Int} {v : Value} (h : RepD w X (.int k n) v) : v = .int k n := by cases h; rfl
theorem args1 {w : World} {X : Nat → Prop} {d : DV} {vs : Array Value} {v : Value} (h : Args w X [d] vs) (hv : ∀ u, RepD w X d u → u = v) : vs = #[v] := by
  obtain ⟨h1, h2⟩ := h
  have e := hv _ (h2 0 d rfl)
  cases vs with
  | mk l =>
    match l, h1 with
    | [u], _ =>
      have e2 : u = v := by simpa using e
      rw [e2]
theorem args2 {w : World} {X : Nat → Prop} {d d' : DV} {vs : Array Value} {v v' : Value} (h : Args w X [d, d'] vs) (hv : ∀ u, RepD w X d u → u = v) (hv' : ∀ u, RepD w X d' u → u = v') : vs = #[v, v'] := by
  obtain ⟨h1, h2⟩ := h
  have e := hv _ (h2 0 d rfl)
  have e' := hv' _ (h2 1 d' rfl)
  cases vs with
  | mk l =>
    match l, h1 with
    | [u, u'], _ =>
      have e2 : u = v := by simpa using e
      have e3 : u' = v' := by simpa using e'
      rw [e2, e3]
theorem res_dv {B : Nat} {w : World} {Y : Nat → Prop} {d : DV} {v : Value} (h : RepD w (fun b => Y b ∨ usedBy [none] b) d v) : ResRep B w Y (.one (.dv d)) v := ⟨none, rfl, h⟩
theorem res_dv3 {B : Nat} {w : World} {Y : Nat → Prop} {d1 d2 d3 : DV} {v1 v2 v3 : Value} (h1 : RepD w (fun b => Y b ∨ usedBy [none, none, none] b) d1 v1) (h2 : RepD w (fun b => Y b ∨ usedBy [none, none, none] b) d2 v2) (h3 : RepD w (fun b => Y b ∨ usedBy [none, none, none] b) d3 v3) : ResRep B w Y (.many [.dv d1, .dv d2, .dv d3]) (.tuple #[v1, v2, v3]) :=
  ⟨[v1, v2, v3], [none, none, none], rfl, ⟨⟨rfl, h1⟩, ⟨rfl, h2⟩, ⟨rfl, h3⟩, trivial⟩, by simp⟩
theorem res_dv2 {B : Nat} {w : World} {Y : Nat → Prop} {d1 d2 : DV} {v1 v2 : Value} (h1 : RepD w (fun b => Y b ∨ usedBy [none, none] b) d1 v1) (h2 : RepD w (fun b => Y b ∨ usedBy [none, none] b) d2 v2) : ResRep B w Y (.many [.dv d1, .dv d2]) (.tuple #[v1, v2]) :=
  ⟨[v1, v2], [none, none], rfl, ⟨⟨rfl, h1⟩, ⟨rfl, h2⟩, trivial⟩, by simp⟩
theorem used_none2 {b : Nat} (h : usedBy [none, none] b) : False := by
  obtain ⟨c, hc⟩ := h; simp at hc
theorem used_none1 {b : Nat} (h : usedBy [none] b) : False := by
  obtain ⟨c, hc⟩ := h; simp at hc
theorem rep_strs {w w' : World} {Y : Nat → Prop} {l : List ByteArray} {t : TypeId} {cap : Nat} (hw : w' = w.alloc (.cells (l.map Value.string).toArray t)) (hY : ∀ b, Y b → b < w.heap.size) (hc : l.length ≤ cap) : RepD w' Y (.list (l.map DV.str)) (.slice (some ⟨w.heap.size, 0, none⟩) l.length cap) := by
  subst hw
  have hf : flat (l.map DV.str) = l.map DV.str := flat_one fun _ => rfl
  have hcell : ∀ j, (w.alloc (.cells (l.map Value.string).toArray t)).cell? ⟨w.heap.size, 0 + j, none⟩ = (l.map Value.string)[j]? := fun j => by
    rw [World.cell?_alloc_new]; simp
  have h := RepD.list (w := w.alloc (.cells (l.map Value.string).toArray t)) (X := Y) (l.map DV.str) w.heap.size 0 cap 1 (fun j => (l.map Value.string).getD j undef) (fun h => Nat.lt_irrefl _ (hY _ h)) (by show w.heap.size < (w.heap.push _).size; rw [Array.size_push]; omega) (by simpa using hc)
    (fun d hd => by obtain ⟨q, _, rfl⟩ := List.mem_map.1 hd; rfl) (fun j c hj => ?_) (fun j c hj => ?_)
  · simpa using h
  · rw [hf, List.getElem?_map] at hj
    obtain ⟨q, hq, rfl⟩ := Option.map_eq_some_iff.1 hj
    rw [hcell, List.getElem?_map, hq]
    simp [List.getD_eq_getElem?_getD, hq]
  · rw [hf, List.getElem?_map] at hj
    obtain ⟨q, hq, rfl⟩ := Option.map_eq_some_iff.1 hj
    rw [List.getD_eq_getElem?_getD, List.getElem?_map, hq]
    exact .str q
end Go.Ab
set_option linter.all false
set_option linter.unusedSimpArgs false
namespace Go.Ab
open Go.RowKit
section
variable {P : Program} {S : St} {x y : Operand} {t src dst e : TypeId} {k : IntKind}
theorem m_sIx {st : ByteArray} {i : Nat} {b : UInt8} (hs : isStrP P t = true) (hb : st.data.toList[i]? = some b)
    (hx : S.ev x = .dv (.str st) := by (simp only [St.look, St.ev, lk, mkM, blkOf, svOf, svOfCell, reduceIte, Nat.reduceAdd, Nat.reduceEqDiff, Nat.reduceMul] <;> rfl)) (hy : S.ev y = .dv (.int k (i : Int)) := by (simp only [St.look, St.ev, lk, mkM, blkOf, svOf, svOfCell, reduceIte, Nat.reduceAdd, Nat.reduceEqDiff, Nat.reduceMul] <;> rfl)) :
    outOf P S (.index t x y) = some (.val (.dv (.int .u8 b.toNat))) := by
  simp only [outOf, strIxSV, hx, hy]
  rw [if_pos ⟨hs, Int.natCast_nonneg i⟩, Int.toNat_natCast, hb]; rfl
theorem u8sOf_map : ∀ ns : List Int, u8sOf (ns.map fun q => .dv (.int .u8 q)) = some ns
  | [] => rfl
  | n :: ns => by simp [u8sOf, u8sOf_map ns]
theorem m_b2s {ns : List Int} {tg g m : Nat} {blk : Blk} (hsrc : P.underlying src = some (.slice e)) (hk : kindP P e = some .u8) (hd : isStrP P dst = true)
    (hx : S.look x = (.sl tg g 0 m, some blk) := by (simp only [St.look, St.ev, lk, mkM, blkOf, svOf, svOfCell, reduceIte, Nat.reduceAdd, Nat.reduceEqDiff, Nat.reduceMul] <;> rfl)) (hc : blk.cells = ns.map fun q => .dv (.int .u8 q) := by rfl) (hm : m = ns.length := by rfl) (hz : blk.esz = 1 := by rfl) :
    outOf P S (.convert src dst x) = some (.val (.dv (.str (bytesOf ns)))) := by
  have ex : S.ev x = .sl tg g 0 m := congrArg Prod.fst hx
  have e0 : convSV P src dst (.sl tg g 0 m) = none := rfl
  simp only [outOf, ex, e0, hx, Option.none_or, b2sSV, hsrc]
  rw [if_pos ⟨hk, hd⟩]
  rw [if_pos ⟨hz, by rw [hc, hm]; simp⟩, hc, hm, List.take_of_length_le (by simp), u8sOf_map]; rfl
end
theorem bytes_push (ns : List Int) : ∀ s : ByteArray, (ns.foldl (fun r n => r.push (UInt8.ofNat n.toNat)) s).data.toList = s.data.toList ++ ns.map fun n => UInt8.ofNat n.toNat := by
  induction ns with
  | nil => intro s; simp
  | cons n ns ih =>
    intro s
    rw [List.foldl_cons, ih]
    simp [ByteArray.push]
theorem bytesOf_eq (ns : List Int) : bytesOf ns = ⟨(ns.map fun n => UInt8.ofNat n.toNat).toArray⟩ := by
  have h := bytes_push ns ByteArray.empty
  have h2 : (bytesOf ns).data = (ns.map fun n => UInt8.ofNat n.toNat).toArray := by
    apply Array.ext'
    unfold bytesOf
    have he : ByteArray.empty.data.toList = [] := rfl
    rw [h, he, List.nil_append]
  cases hb : bytesOf ns with
  | mk d => rw [hb] at h2; simp only at h2; rw [h2]
theorem bytesOf_nat (l : List UInt8) : bytesOf (l.map fun b => (b.toNat : Int)) = ⟨l.toArray⟩ := by
  rw [bytesOf_eq, List.map_map]
  have : (fun n : Int => UInt8.ofNat n.toNat) ∘ (fun b : UInt8 => (b.toNat : Int)) = id := by
    funext b; simp
  rw [this, List.map_id]
section
variable {cx : Cx} {P : Program} {N : Nat} {ops : Array Oper} {rest : List Oper} {l : List (Nat × SV)} {m : List (Nat × Nat × Option Blk)} {K : St → Prop}
  {d : Nat} {ty : TypeId} {p : String} {af : Array Edge} {gd : Option (Nat × Bool)}
theorem qnif {t t2 : TypeId} {x : Operand} {e : DV} (b : Bool) (hi : isIfaceP P t = true) (he : (e = .nilIface ∧ b = false) ∨ (∃ q z, e = .iface q z) ∧ b = true) (kk : Chain cx ops rest ⟨lk ((d, .dv (.bool b)) :: l), mkM m⟩ K)
    (hx : St.ev ⟨lk l, mkM m⟩ x = .dv e := by (simp only [St.look, St.ev, lk, mkM, blkOf, svOf, svOfCell, reduceIte, Nat.reduceAdd, Nat.reduceEqDiff, Nat.reduceMul] <;> rfl)) (hP : cx.P = P := by assumption) (hn : cx.n = N := by assumption) (hd : d < N := by decide) (hgd : GOk ops ⟨lk l, mkM m⟩ gd := by (first | exact trivial | exact ⟨_, rfl, by (simp only [lk, reduceIte, Nat.reduceEqDiff])⟩)) :
    Chain cx ops (⟨some d, .binOp .neq t x (.const .nilIface) t2, ty, p, af, gd⟩ :: rest) ⟨lk l, mkM m⟩ K := by
  subst hP; subst hn
  refine ⟨⟨lk ((d, .dv (.bool b)) :: l), mkM m⟩, gstep_of hgd (.sem fun hg a w hsim => ?_), kk⟩
  obtain ⟨μ, h⟩ := hsim
  have hx1 := h.ev x
  rw [hx] at hx1
  simp only [SVRep] at hx1
  generalize hvx : a.eval x = vx at hx1
  have hu : ∃ ms, cx.P.underlying t = some (.interface ms) := by
    unfold isIfaceP at hi
    split at hi
    · exact ⟨_, by assumption⟩
    · cases hi
  obtain ⟨ms, hu⟩ := hu
  have hv : (vx = .nilIface ∧ b = false) ∨ (∃ q z, vx = .iface q z) ∧ b = true := by
    rcases he with ⟨rfl, hb⟩ | ⟨⟨q, z, rfl⟩, hb⟩
    · cases hx1; exact .inl ⟨rfl, hb⟩
    · cases hx1; exact .inr ⟨⟨_, _, rfl⟩, hb⟩
  have hc : a.eval (.const .nilIface) = .nilIface := rfl
  have hrun : (execOp a.eval ⟨some d, .binOp .neq t x (.const .nilIface) t2, ty, p, af, gd⟩).run cx.P w = .ok (.value (.bool b)) w := by
    unfold execOp
    simp only [hvx, hc]
    rcases hv with ⟨rfl, rfl⟩ | ⟨⟨q, z, rfl⟩, rfl⟩
    · have he : (Op.equal t .nilIface .nilIface).run cx.P w = .ok true w := by
        show (Op.equalIn (9999 + 1) t .nilIface .nilIface).run cx.P w = _
        unfold Op.equalIn
        simp only [Sem.run_bind, run_underlying hu, Result.andThen_ok]
        rfl
      have h0 : (eqGuard .neq t x (.const .nilIface) .nilIface .nilIface).run cx.P w = .ok () w := by
        unfold eqGuard
        simp
      have h1 : (binOp .neq t .nilIface .nilIface).run cx.P w = .ok (.bool false) w := by
        show (do pure (.bool (!(← Op.equal t .nilIface .nilIface))) : Sem Value).run cx.P w = _
        simp only [Sem.run_bind, he, Result.andThen_ok, Sem.run_pure]; rfl
      simp only [Sem.run_bind, h0, h1, Result.andThen_ok]; rfl
    · have he : (Op.equal t (.iface q z) .nilIface).run cx.P w = .ok false w := by
        show (Op.equalIn (9999 + 1) t (.iface q z) .nilIface).run cx.P w = _
        unfold Op.equalIn
        simp only [Sem.run_bind, run_underlying hu, Result.andThen_ok]
        rfl
      have h0 : (eqGuard .neq t x (.const .nilIface) (.iface q z) .nilIface).run cx.P w = .ok () w := by
        unfold eqGuard
        simp
      have h1 : (binOp .neq t (.iface q z) .nilIface).run cx.P w = .ok (.bool true) w := by
        show (do pure (.bool (!(← Op.equal t (.iface q z) .nilIface))) : Sem Value).run cx.P w = _
        simp only [Sem.run_bind, he, Result.andThen_ok, Sem.run_pure]; rfl
      simp only [Sem.run_bind, h0, h1, Result.andThen_ok]; rfl
  refine (runs_val h hrun (r := .dv (.bool b)) (S' := ⟨lk ((d, .dv (.bool b)) :: l), mkM m⟩) ?_ ?_).does
  · simp only [SVRep]; exact .bool _
  · show (if d < cx.n then _ else _) = _
    rw [if_pos hd, upd_lk]
end
end Go.Ab
set_option linter.all false
namespace Go.Ab
open Go.RowKit
abbrev Tx := List UInt8
abbrev bs (l : Tx) : ByteArray := ⟨l.toArray⟩
theorem bs_of_data {s : ByteArray} {l : Tx} (h : s.data.toList = l) : s = bs l := by
  subst h; cases s; rfl
theorem bs_data (s : ByteArray) : bs s.data.toList = s := (bs_of_data rfl).symm
theorem bs_app (a b : Tx) : (bs a ++ bs b : ByteArray) = bs (a ++ b) := bs_of_data (by simp [bs])
theorem bs_size (a : Tx) : (bs a).size = a.length := by simp [bs, ByteArray.size]
theorem bs_toList (a : Tx) : (bs a).toList = a := by rw [ByteArray.toList_eq]
def bsI (L : Tx) : List Int := L.map fun b => (b.toNat : Int)
theorem bsI_len (L : Tx) : (bsI L).length = L.length := by simp [bsI]
theorem bsI_nil : bsI [] = [] := rfl
theorem bsI_app (L M : Tx) : bsI (L ++ M) = bsI L ++ bsI M := by simp [bsI]
theorem bsI_cons (b : UInt8) (L : Tx) : bsI (b :: L) = (b.toNat : Int) :: bsI L := rfl
section
variable {P : Program} {S : St} {x y : Operand} {t src dst e t2 : TypeId} {k : IntKind} {ob : Option Blk}
theorem m_cat {a b : Tx} (hx : S.ev x = .dv (.str (bs a)) := by (simp only [St.look, St.ev, lk, mkM, blkOf, svOf, svOfCell, reduceIte, Nat.reduceAdd, Nat.reduceEqDiff, Nat.reduceMul] <;> rfl)) (hy : S.ev y = .dv (.str (bs b)) := by (simp only [St.look, St.ev, lk, mkM, blkOf, svOf, svOfCell, reduceIte, Nat.reduceAdd, Nat.reduceEqDiff, Nat.reduceMul] <;> rfl)) (h : (a.length : Int) + b.length ≤ 9223372036854775807 := by (first | omega | (simp <;> omega))) :
    outOf P S (.binOp .add t x y t2) = some (.val (.dv (.str (bs (a ++ b))))) := by
  simp only [outOf, binSV, hx, hy, strBin, Option.map_some]
  rw [if_neg (by rw [bs_size, bs_size]; omega), bs_app]; rfl
theorem m_seq {a b : Tx} (hx : S.ev x = .dv (.str (bs a)) := by (simp only [St.look, St.ev, lk, mkM, blkOf, svOf, svOfCell, reduceIte, Nat.reduceAdd, Nat.reduceEqDiff, Nat.reduceMul] <;> rfl)) (hy : S.ev y = .dv (.str (bs b)) := by (simp only [St.look, St.ev, lk, mkM, blkOf, svOf, svOfCell, reduceIte, Nat.reduceAdd, Nat.reduceEqDiff, Nat.reduceMul] <;> rfl)) : outOf P S (.binOp .eql t x y t2) = some (.val (.dv (.bool (a == b)))) := by
  simp only [outOf, binSV, hx, hy, strBin, Option.map_some, bs_toList]
theorem m_sne {a b : Tx} (hx : S.ev x = .dv (.str (bs a)) := by (simp only [St.look, St.ev, lk, mkM, blkOf, svOf, svOfCell, reduceIte, Nat.reduceAdd, Nat.reduceEqDiff, Nat.reduceMul] <;> rfl)) (hy : S.ev y = .dv (.str (bs b)) := by (simp only [St.look, St.ev, lk, mkM, blkOf, svOf, svOfCell, reduceIte, Nat.reduceAdd, Nat.reduceEqDiff, Nat.reduceMul] <;> rfl)) : outOf P S (.binOp .neq t x y t2) = some (.val (.dv (.bool (!(a == b))))) := by
  simp only [outOf, binSV, hx, hy, strBin, Option.map_some, bs_toList]
theorem m_b2L {L : Tx} {tg g m : Nat} {blk : Blk} (hsrc : P.underlying src = some (.slice e)) (hk : kindP P e = some .u8) (hd : isStrP P dst = true) (hx : S.look x = (.sl tg g 0 m, some blk) := by (simp only [St.look, St.ev, lk, mkM, blkOf, svOf, svOfCell, reduceIte, Nat.reduceAdd, Nat.reduceEqDiff, Nat.reduceMul] <;> rfl)) (hc : blk.cells = (bsI L).map fun q => .dv (.int .u8 q) := by rfl) (hm : m = L.length := by rfl) (hz : blk.esz = 1 := by rfl) :
    outOf P S (.convert src dst x) = some (.val (.dv (.str (bs L)))) := by
  have h := m_b2s hsrc hk hd hx hc (by rw [hm, bsI_len]) hz
  rw [show bytesOf (bsI L) = bs L from bytesOf_nat L] at h
  exact h
theorem m_slen {a : Tx} (hl : isStrP P t = true) (hx : S.look x = (.dv (.str (bs a)), ob) := by (simp only [St.look, St.ev, lk, mkM, blkOf, svOf, svOfCell, reduceIte, Nat.reduceAdd, Nat.reduceEqDiff, Nat.reduceMul] <;> rfl)) : outOf P S (.call { callee := .builtin .len, args := #[x], argTypes := #[t] }) = some (.val (.dv (.int .i64 (a.length : Int)))) := by
  have := m_lenS (P := P) hl hx
  rwa [bs_size] at this
theorem m_sAt {a : Tx} (i : Nat) {b : UInt8} (hs : isStrP P t = true) (hb : a[i]? = some b) (hx : S.ev x = .dv (.str (bs a)) := by (simp only [St.look, St.ev, lk, mkM, blkOf, svOf, svOfCell, reduceIte, Nat.reduceAdd, Nat.reduceEqDiff, Nat.reduceMul] <;> rfl)) (hy : S.ev y = .dv (.int k (i : Int)) := by (simp only [St.look, St.ev, lk, mkM, blkOf, svOf, svOfCell, reduceIte, Nat.reduceAdd, Nat.reduceEqDiff, Nat.reduceMul] <;> rfl)) : outOf P S (.index t x y) = some (.val (.dv (.int .u8 b.toNat))) := m_sIx hs hb hx hy
end
end Go.Ab
