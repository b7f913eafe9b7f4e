/- The abstract layer, part 23: what an operation yields, told shortly. -/
import Derived.Test.YtjlfgobbieljoaaAb22
set_option linter.unusedVariables false
namespace Go.Ab
open Go.RowKit

theorem wrap_i64 {n : Int} (h1 : -9223372036854775808 ≤ n) (h2 : n < 9223372036854775808) : IntKind.i64.wrap n = n := by
  have e : IntKind.i64.wrap n = (n + 9223372036854775808) % 18446744073709551616 - 9223372036854775808 := by
    simp only [IntKind.wrap, IntKind.bits, IntKind.signed]
    first
    | rfl
    | (simp; omega)
  rw [e]
  omega

section
variable {P : Program} {S : St} {x y z c : Operand} {t e ty ty' : TypeId} {k k' : IntKind} {a b n : Int} {r s : SV} {ob : Option Blk} {blk : Blk} {f off : Nat} {cs ds : List DV} {l : List DV} {tg g o len sz by' : Nat} {bb cc : Bool}

theorem e_move (h : S.ev x = r) : outOf P S (.move x) = some (.val r) := by simp only [outOf, h]
theorem e_assign (h : S.ev x = r) : outOf P S (.assign x) = some (.val r) := by simp only [outOf, h]
theorem e_pick (hc : S.ev c = .dv (.bool bb)) (hx : S.ev x = r) (hy : S.ev y = s) {q : SV} (hq : pickSV bb r s = q) : outOf P S (.pick c x y) = some (.val q) := by simp only [outOf, hc, hx, hy, hq]
theorem e_bin {op : BinOp} {d : DV} (hx : S.ev x = .dv (.int k a)) (hy : S.ev y = .dv (.int k b)) (hop : op ≠ .shl ∧ op ≠ .shr) (h : intBin op k a b = some d) : outOf P S (.binOp op t x y ty) = some (.val (.dv d)) := by
  simp only [outOf, hx, hy, binSV]
  cases op <;> simp_all
theorem e_add (hx : S.ev x = .dv (.int .i64 a)) (hy : S.ev y = .dv (.int .i64 b)) (h1 : -9223372036854775808 ≤ a + b) (h2 : a + b < 9223372036854775808) : outOf P S (.binOp .add t x y ty) = some (.val (.dv (.int .i64 (a + b)))) :=
  e_bin hx hy (by simp) (by simp only [intBin, wrap_i64 h1 h2])
theorem e_sub (hx : S.ev x = .dv (.int .i64 a)) (hy : S.ev y = .dv (.int .i64 b)) (h1 : -9223372036854775808 ≤ a - b) (h2 : a - b < 9223372036854775808) : outOf P S (.binOp .sub t x y ty) = some (.val (.dv (.int .i64 (a - b)))) :=
  e_bin hx hy (by simp) (by simp only [intBin, wrap_i64 h1 h2])
theorem e_mul (hx : S.ev x = .dv (.int .i64 a)) (hy : S.ev y = .dv (.int .i64 b)) (h1 : -9223372036854775808 ≤ a * b) (h2 : a * b < 9223372036854775808) : outOf P S (.binOp .mul t x y ty) = some (.val (.dv (.int .i64 (a * b)))) :=
  e_bin hx hy (by simp) (by simp only [intBin, wrap_i64 h1 h2])
theorem e_eql (hx : S.ev x = .dv (.int k a)) (hy : S.ev y = .dv (.int k b)) : outOf P S (.binOp .eql t x y ty) = some (.val (.dv (.bool (a == b)))) := e_bin hx hy (by simp) rfl
theorem e_neq (hx : S.ev x = .dv (.int k a)) (hy : S.ev y = .dv (.int k b)) : outOf P S (.binOp .neq t x y ty) = some (.val (.dv (.bool (a != b)))) := e_bin hx hy (by simp) rfl
theorem e_lss (hx : S.ev x = .dv (.int k a)) (hy : S.ev y = .dv (.int k b)) : outOf P S (.binOp .lss t x y ty) = some (.val (.dv (.bool (decide (a < b))))) := e_bin hx hy (by simp) rfl
theorem e_leq (hx : S.ev x = .dv (.int k a)) (hy : S.ev y = .dv (.int k b)) : outOf P S (.binOp .leq t x y ty) = some (.val (.dv (.bool (decide (a ≤ b))))) := e_bin hx hy (by simp) rfl
theorem e_gtr (hx : S.ev x = .dv (.int k a)) (hy : S.ev y = .dv (.int k b)) : outOf P S (.binOp .gtr t x y ty) = some (.val (.dv (.bool (decide (b < a))))) := e_bin hx hy (by simp) rfl
theorem e_geq (hx : S.ev x = .dv (.int k a)) (hy : S.ev y = .dv (.int k b)) : outOf P S (.binOp .geq t x y ty) = some (.val (.dv (.bool (decide (b ≤ a))))) := e_bin hx hy (by simp) rfl
theorem e_quo (hx : S.ev x = .dv (.int .i64 a)) (hy : S.ev y = .dv (.int .i64 b)) (h0 : b ≠ 0) (h1 : -9223372036854775808 ≤ a.tdiv b) (h2 : a.tdiv b < 9223372036854775808) : outOf P S (.binOp .quo t x y ty) = some (.val (.dv (.int .i64 (a.tdiv b)))) :=
  e_bin hx hy (by simp) (by simp only [intBin, h0, if_false, wrap_i64 h1 h2])
theorem e_rem (hx : S.ev x = .dv (.int k a)) (hy : S.ev y = .dv (.int k b)) (h0 : b ≠ 0) : outOf P S (.binOp .rem t x y ty) = some (.val (.dv (.int k (a.tmod b)))) :=
  e_bin hx hy (by simp) (by simp only [intBin, h0, if_false])
theorem e_beq (hx : S.ev x = .dv (.bool bb)) (hy : S.ev y = .dv (.bool cc)) (hP : isBoolP P t = true) : outOf P S (.binOp .eql t x y ty) = some (.val (.dv (.bool (bb == cc)))) := by simp only [outOf, hx, hy, binSV, hP, if_true, Option.map_some]
theorem e_bne (hx : S.ev x = .dv (.bool bb)) (hy : S.ev y = .dv (.bool cc)) (hP : isBoolP P t = true) : outOf P S (.binOp .neq t x y ty) = some (.val (.dv (.bool !(bb == cc)))) := by simp only [outOf, hx, hy, binSV, hP, if_true, Option.map_some]
theorem e_not (hx : S.ev x = .dv (.bool bb)) : outOf P S (.unOp .not t x) = some (.val (.dv (.bool !bb))) := by simp only [outOf, hx, unSV, Option.map_some]
theorem e_neg (hx : S.ev x = .dv (.int .i64 a)) (h1 : -9223372036854775808 ≤ -a) (h2 : -a < 9223372036854775808) : outOf P S (.unOp .neg t x) = some (.val (.dv (.int .i64 (-a)))) := by
  have e : (0 : Int) - a = -a := by omega
  simp only [outOf, hx, unSV, Option.map_some, e, wrap_i64 h1 h2]

theorem e_field (hx : S.look x = (.dv (.cptr cs), ob)) (hf : fieldP P t f = some off) {cs' : List DV} (hc : cs.drop off = cs') : outOf P S (.fieldAddr t x f) = some (.val (.dv (.cptr cs'))) := by
  simp only [outOf, hx, fieldSV, hf, Option.map_some, hc]
theorem e_fieldp (hx : S.look x = (.pt tg g o, some blk)) (hf : fieldP P t f = some off) {o' : Nat} (ho : o + off = o') : outOf P S (.fieldAddr t x f) = some (.val (.pt tg g o')) := by
  simp only [outOf, hx, fieldSV, hf, Option.map_some, ho]

/-- A cell behind a pointer. -/
theorem e_load {d : DV} (hx : S.look x = (.dv (.cptr cs), ob)) (hs : szP P t = some sz) (ha : aggP P t = some false) (hc : cs[0]? = some d) : outOf P S (.load t x) = some (.val (.dv d)) := by
  simp only [outOf, hx, loadSV, hs, ha, hc, Option.map_some]
theorem e_loada (hx : S.look x = (.dv (.cptr cs), ob)) (hs : szP P t = some sz) (ha : aggP P t = some true) (hl : sz ≤ cs.length) {cs' : List DV} (hc : cs.take sz = cs') : outOf P S (.load t x) = some (.val (.dv (.agg cs'))) := by
  simp only [outOf, hx, loadSV, hs, ha, hl, if_true, hc, Option.map_some]
theorem e_loadp (hx : S.look x = (.pt tg g o, some blk)) (hs : szP P t = some sz) (ha : aggP P t = some false) (hc : blk.cells[o]? = some r) : outOf P S (.load t x) = some (.val r) := by
  simp only [outOf, hx, loadSV, hs, ha, hc, Option.map_some]
theorem e_loadpa (hx : S.look x = (.pt tg g o, some blk)) (hs : szP P t = some sz) (ha : aggP P t = some true) (hl : o + sz ≤ blk.cells.length) {r : SV} (hc : aggSV ((blk.cells.drop o).take sz) = r) : outOf P S (.load t x) = some (.val r) := by
  simp only [outOf, hx, loadSV, hs, ha, hl, if_true, hc, Option.map_some]

theorem e_index {α : Type} {F : α → DV} {L : List α} {q : α} (hx : S.look x = (.dv (.list (L.map F)), ob)) (hy : S.ev y = .dv (.int k n)) (h0 : 0 ≤ n) (hq : L[n.toNat]? = some q) (he : elemP P t = some e) (hs : szP P e = some (F q).cells.length) :
    outOf P S (.indexAddr t x y) = some (.val (.dv (.cptr (F q).cells))) := by
  have h1 : n.toNat < (L.map F).length := by rw [List.length_map]; exact (List.getElem?_eq_some_iff.1 hq).1
  have h2 : (L.map F)[n.toNat] = F q := by
    rw [List.getElem_map]
    exact congrArg F (List.getElem?_eq_some_iff.1 hq).2
  simp only [outOf, hx, hy, indexSV, he]
  rw [dif_pos ⟨h0, h1⟩, if_pos (by rw [h2]; exact hs), h2]
  rfl
/-- By a natural number. -/
theorem e_indexN {α : Type} {F : α → DV} {L : List α} {q : α} {i : Nat} (hx : S.look x = (.dv (.list (L.map F)), ob)) (hy : S.ev y = .dv (.int k (i : Int))) (hq : L[i]? = some q) (he : elemP P t = some e) (hs : szP P e = some (F q).cells.length) :
    outOf P S (.indexAddr t x y) = some (.val (.dv (.cptr (F q).cells))) := e_index hx hy (Int.natCast_nonneg i) (by rw [Int.toNat_natCast]; exact hq) he hs
theorem e_indexR (hx : S.look x = (.sl tg g o len, some blk)) (hy : S.ev y = .dv (.int k n)) (h0 : 0 ≤ n) (h1 : n.toNat < len) (he : elemP P t = some e) (hs : szP P e = some blk.esz) {o' : Nat} (ho : (o + n.toNat) * blk.esz = o') :
    outOf P S (.indexAddr t x y) = some (.val (.pt tg g o')) := by
  simp only [outOf, hx, hy, indexSV, he]
  rw [if_pos ⟨h0, h1, hs⟩, ho]
  rfl

theorem e_len {α : Type} {F : α → DV} {L : List α} (hx : S.look x = (.dv (.list (L.map F)), ob)) (hs : isSliceP P t = true) : outOf P S (.call { callee := .builtin .len, args := #[x], argTypes := #[t] }) = some (.val (.dv (.int .i64 (L.length : Int)))) := by
  simp only [outOf, callOut, builtinOut, hx, lenSV, hs, if_true, Option.map_some, List.length_map]
theorem e_lenR (hx : S.look x = (.sl tg g o len, some blk)) (hs : isSliceP P t = true) : outOf P S (.call { callee := .builtin .len, args := #[x], argTypes := #[t] }) = some (.val (.dv (.int .i64 (len : Int)))) := by
  simp only [outOf, callOut, builtinOut, hx, lenSV, hs, if_true, Option.map_some]
theorem e_len0 (hx : S.look x = (.nils, ob)) (hs : isSliceP P t = true) : outOf P S (.call { callee := .builtin .len, args := #[x], argTypes := #[t] }) = some (.val (.dv (.int .i64 0))) := by
  simp only [outOf, callOut, builtinOut, hx, lenSV, hs, if_true, Option.map_some]
theorem e_lenS {st : ByteArray} (hx : S.look x = (.dv (.str st), ob)) (hs : isStrP P t = true) : outOf P S (.call { callee := .builtin .len, args := #[x], argTypes := #[t] }) = some (.val (.dv (.int .i64 (st.size : Int)))) := by
  simp only [outOf, callOut, builtinOut, hx, lenSV, hs, if_true, Option.map_some]
theorem e_max {ts : Array TypeId} (hx : S.ev x = .dv (.int k a)) (hy : S.ev y = .dv (.int k' b)) : outOf P S (.call { callee := .builtin .max, args := #[x, y], argTypes := ts }) = some (.val (.dv (.int k (if b > a then b else a)))) := by
  simp only [outOf, callOut, builtinOut, hx, hy, minmaxSV, if_true, Option.map_some]
theorem e_min {ts : Array TypeId} (hx : S.ev x = .dv (.int k a)) (hy : S.ev y = .dv (.int k' b)) : outOf P S (.call { callee := .builtin .min, args := #[x, y], argTypes := ts }) = some (.val (.dv (.int k (if b < a then b else a)))) := by
  simp only [outOf, callOut, builtinOut, hx, hy, minmaxSV, Bool.false_eq_true, if_false, Option.map_some]
theorem e_nilck (hx : S.look x = (s, ob)) (h : nilckSV (s, ob) = some r) : outOf P S (.nilCheck x) = some (.val r) := by simp only [outOf, hx, h, Option.map_some]
theorem e_extract {i : Nat} (hx : S.ev x = s) (h : extractSV s i = some r) : outOf P S (.extract x i) = some (.val r) := by simp only [outOf, hx, h, Option.map_some]
theorem e_conv (hx : S.ev x = .dv (.int k a)) (h : convSV P t ty (.dv (.int k a)) = some r) : outOf P S (.convert t ty x) = some (.val r) := by simp only [outOf, hx, h, Option.map_some]
theorem e_box {cc : List SV} (hx : S.ev x = s) (hc : cellsSV s = some cc) : outOf P S (.box t x) = some (.mk ⟨cc, 0, t, 0, false⟩ 0) := by simp only [outOf, hx, hc, Option.map_some]
theorem e_alloc {cc : List SV} (hc : zeroP P t = some cc) : outOf P S (.alloc t) = some (.mk ⟨cc, 0, t, 0, false⟩ 0) := by simp only [outOf, hc, Option.map_some]
theorem e_build {parts : Array (Nat × Operand)} {ps : List (Nat × SV)} (hp : (parts.toList.map fun p => (p.1, S.ev p.2)) = ps) {places : List (Nat × Nat)} {zs cc : List SV} (h1 : placesP P t = some places) (h2 : zeroP P t = some zs) (h3 : fillSV (fun i => places[i]?) zs ps = some cc) (h4 : aggSV cc = r) :
    outOf P S (.build t parts) = some (.val r) := by simp only [outOf, hp, buildSV, h1, h2, h3, Option.map_some, h4]
theorem e_buildSlice {parts : Array (Nat × Operand)} {ps : List (Nat × SV)} (hp : (parts.toList.map fun p => (p.1, S.ev p.2)) = ps) {zs cc : List SV} (he : elemP P t = some e) (hz : zeroP P e = some zs) (hs : szP P e = some sz)
    (h1 : zs.length = sz) (h2 : len * sz ≤ 16777216) (h3 : len ≤ 16777216) (hf : fillSV (fun i => some (i * sz, sz)) (List.replicate len zs).flatten ps = some cc) : outOf P S (.buildSlice t len parts) = some (.mk ⟨cc, sz, e, 0, true⟩ len) := by
  simp only [outOf, hp, buildSliceOut, he, hz, hs, h1, h2, h3, and_self, if_true, hf, Option.map_some]
theorem e_make {zs : List SV} (hx : S.ev x = .dv (.int .i64 n)) (hy : S.ev y = .dv (.int .i64 n)) (he : elemP P t = some e) (hz : zeroP P e = some zs) (hs : szP P e = some sz) (hb : bytesP P e = some by')
    (h0 : 0 ≤ n) (h1 : by' * n ≤ 281474976710656) (h2 : n ≤ 9223372036854775807) (h3 : zs.length = sz) : outOf P S (.makeSlice t x y) = some (.mk ⟨(List.replicate n.toNat zs).flatten, sz, e, 0, true⟩ n.toNat) := by
  simp only [outOf, hx, hy, makeOut, he, hz, hs, hb]
  rw [if_pos ⟨h0, Int.le_refl _, h1, h2, h3⟩]
theorem e_store {cc : List SV} (hx : S.look x = (.pt tg g o, some blk)) (hs : szP P t = some sz) (hv : cellsSV (S.ev y) = some cc) (h1 : cc.length = sz) (h2 : cc.all cellOk = true) (h3 : o + cc.length ≤ blk.cells.length) {cells : List SV} (hc : putCells blk.cells o cc = cells) :
    outOf P S (.store t x y) = some (.put tg { blk with cells := cells }) := by
  simp only [outOf, hx, storeOut, hs, hv]
  rw [if_pos ⟨h1, h2, h3⟩, hc]
theorem e_app0 {m' : Nat} {news zs : List SV} {tx ex : TypeId} (hs : S.look x = (.nils, ob)) (hx : srcSV sz (S.look y) = some (m', news)) (he : elemP P t = some e) (hex : elemP P tx = some ex) (hz : zeroP P e = some zs) (hsz : szP P e = some sz) (hb : bytesP P e = some by')
    (h1 : m' ≤ 9223372036854775807) (h2 : m' * by' ≤ 140737488355328) (h3 : zs.length = sz) : outOf P S (.call { callee := .builtin .append, args := #[x, y], argTypes := #[t, tx] }) = some (.app none ⟨news, sz, e, 0, true⟩ m') := by
  simp only [outOf, callOut, builtinOut, appendOut, he, hex, hsz, hb, hz, hx, hs]
  rw [if_pos ⟨h1, h2, h3⟩]
theorem e_app1 {m' : Nat} {news zs : List SV} {tx ex : TypeId} (hs : S.look x = (.sl tg g 0 len, some blk)) (hx : srcSV sz (S.look y) = some (m', news)) (he : elemP P t = some e) (hex : elemP P tx = some ex) (hz : zeroP P e = some zs) (hsz : szP P e = some sz) (hb : bytesP P e = some by')
    (hr : blk.row = true) (hes : blk.esz = sz) (hel : blk.elem = e) (hln : blk.cells.length = len * sz) (h1 : len + m' ≤ 9223372036854775807) (h2 : (len + m') * by' ≤ 140737488355328) (h3 : zs.length = sz) {cells : List SV} (hc : blk.cells ++ news = cells) :
    outOf P S (.call { callee := .builtin .append, args := #[x, y], argTypes := #[t, tx] }) = some (.app (some tg) { blk with cells := cells, st := 0 } (len + m')) := by
  simp only [outOf, callOut, builtinOut, appendOut, he, hex, hsz, hb, hz, hx, hs]
  rw [if_pos ⟨hr, hes, hel, hln, h1, h2, h3⟩, hc]

/-! what an append takes -/
theorem src_map {α : Type} {F : α → DV} {L : List α} {M : Nat → Nat × Option Blk} (hF : ∀ q, (F q).cells = [F q]) (hok : ∀ q, cellOk (.dv (F q)) = true) : srcSV 1 (.dv (.list (L.map F)), ob) = some (L.length, L.map fun q => .dv (F q)) := by
  have h1 : (L.map F).all (fun d => d.cells.length == 1 && d.cells.all fun c => cellOk (.dv c)) = true := by
    rw [List.all_eq_true]
    intro d hd
    obtain ⟨q, _, rfl⟩ := List.mem_map.1 hd
    simp [hF, hok]
  have h2 : flat (L.map F) = L.map F := by
    unfold flat
    induction L with
    | nil => rfl
    | cons q L ih => simp only [List.map_cons, List.flatMap_cons, hF, List.cons_append, List.nil_append]; rw [ih]; rw [List.map_cons, List.all_cons, Bool.and_eq_true] at h1; exact h1.2
  simp only [srcSV, h1, if_true, List.length_map, h2, List.map_map]
  rfl
theorem src_ints {L : List Int} : srcSV 1 (.dv (.list (L.map (DV.int k))), ob) = some (L.length, L.map fun q => .dv (.int k q)) := src_map (M := fun _ => (0, none)) (fun _ => rfl) (fun _ => rfl)

theorem putCells_set {α β : Type} (F : α → β) (L : List α) (i : Nat) (v : α) (hi : i < L.length) : putCells (L.map F) i [F v] = (L.set i v).map F := by
  unfold putCells
  rw [List.set_eq_take_append_cons_drop, if_pos hi]
  simp [List.map_take, List.map_drop]
end
end Go.Ab
