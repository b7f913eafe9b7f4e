/- BogD1, BogAs, BogRs, Ab52, Ab54. -/
import Derived.Test.YtjcecljhjailiaaGreatDoorBogG30
import Derived.Test.YtjcecljhjailiaaGreatDoorBogG15
import Derived.Test.YtjcecljhjailiaaGreatDoorBogG18
import Derived.Test.YtjcecljhjailiaaGreatDoorBogG09
import Derived.WalkKit
import Derived.LaidEql
import Derived.Stop.Asserts
import Derived.RowKitTokens
import Derived.Test.YtjcecljhjailiaaGreatDoorBogG15
import Derived.Test.YtjcecljhjailiaaGreatDoorBogG12
import Derived.Conc.MuLone
import Derived.Laws.Tables
import Derived.Defers
import Derived.Test.YtjcecljhjailiaaGreatDoorBogG11
import Derived.WideLaws
set_option linter.all false
namespace Go.Ab.Tryz
open Go Go.Ab Go.Proofs Go.Ab.Moss Go.Ab.Bog
open Go.Ab.Heap (ata ata_get ata_set sm sm_set sm_congr sm_le sm_nonneg Hp dHp validate calmB VH vh_of stl stl_spec Hpg topL)
def mnOf (b : Bg) (n : Int) : Mn := ⟨b.dep, b.worth.length, n.toNat⟩
structure Fn (b : Bg) (h : Hp) (n : Int) : Prop where
  bg : BgOk b
  hv : validate h = 0
  len : h.ground.length = b.worth.length
  mn : (mnOf b n).Ok
  mw : mwOf b n = (mnOf b n).w
theorem Fn.vh {b : Bg} {h : Hp} {n : Int} (F : Fn b h n) : VH h := vh_of F.hv
theorem fn_of {b : Bg} {h : Hp} {n : Int} (e : newE b h n = 0) : Fn b h n := by
  obtain ⟨h1, h2, h3, h4⟩ := newE_0 e
  have ok := bgV_0 h1
  have hv : validB (mwOf b n) = true := by
    unfold valid at h4
    split at h4
    · assumption
    · cases h4
  obtain ⟨q, q1, q2⟩ := valid_n hv
  have e1 : q.r = b.dep := by have := congrArg Mw.rows q2; simp only [mwOf] at this; omega
  have e2 : q.c = b.worth.length := by have := congrArg Mw.cols q2; simp only [mwOf] at this; omega
  have e3 : n = q.nd := congrArg Mw.need q2
  have e4 : mnOf b n = q := by
    unfold mnOf; rw [← e1, ← e2, e3, Int.toNat_natCast]
  exact ⟨ok, h2, h3, by rw [e4]; exact q1, by rw [e4]; exact q2⟩
theorem Fn.e {b : Bg} {h : Hp} {n : Int} (F : Fn b h n) : newE b h n = 0 := by
  unfold newE
  rw [if_neg (by simp [bgV_ok F.bg]), if_neg (by simp [F.hv]), if_neg (by simp [F.len]), F.mw]
  unfold valid
  rw [n_valid F.mn]; rfl
theorem sm_upd {f g : Nat → Int} {k : Nat} : ∀ {n : Nat}, k < n → (∀ i, i < n → i ≠ k → g i = f i) → sm g n = sm f n + (g k - f k)
  | 0, hk, _ => by omega
  | n + 1, hk, he => by
    simp only [sm]
    by_cases h : k = n
    · subst h
      rw [sm_congr (f := g) (g := f) fun i hi => he i (by omega) (by omega)]
      omega
    · rw [sm_upd (k := k) (n := n) (by omega) fun i hi hik => he i (by omega) hik, he n (by omega) (by omega)]
      omega
theorem dug_sum {l : List Int} {k : Nat} (hk : k < l.length) : sm (ata (dug l k)) (dug l k).length = sm (ata l) l.length + 1 := by
  rw [dug_len]
  unfold dug
  rw [sm_set rfl hk]; omega
theorem dug_worth {b : Bg} {l : List Int} {k : Nat} (hk : k < l.length) (h0 : 0 ≤ ata l k) : worth b (dug l k) = worth b l + ata (b.col k) (ata l k).toNat := by
  unfold worth worW
  rw [dug_len, sm_upd (f := fun i => colW b i (ata l i).toNat) (k := k) hk]
  · rw [dug_at hk, if_pos rfl]
    have : (ata l k + 1).toNat = (ata l k).toNat + 1 := by omega
    rw [this]
    unfold colW
    simp only [sm]; omega
  · intro i hi hik
    rw [dug_at hk, if_neg hik]
theorem col_bit {b : Bg} {k : Nat} : ∀ (r i : Nat), (colB b k r).testBit i = true ↔ ∃ q, q < r ∧ i = q * b.worth.length + k
  | 0, i => by simp [colB]
  | r + 1, i => by
    rw [colB, Nat.testBit_or, Bool.or_eq_true, col_bit r i, sqN, Nat.testBit_two_pow, decide_eq_true_eq]
    constructor
    · rintro (⟨q, h1, h2⟩ | h)
      · exact ⟨q, by omega, h2⟩
      · exact ⟨r, by omega, h.symm⟩
    · rintro ⟨q, h1, h2⟩
      by_cases h : q = r
      · subst h; exact .inr h2.symm
      · exact .inl ⟨q, by omega, h2⟩
theorem bare_bit {b : Bg} {l : List Int} : ∀ (k i : Nat), (bareN b l k).testBit i = true ↔ ∃ c q, c < k ∧ q < (ata l c).toNat ∧ i = q * b.worth.length + c
  | 0, i => by simp [bareN]
  | k + 1, i => by
    rw [bareN, Nat.testBit_or, Bool.or_eq_true, bare_bit k i, col_bit]
    constructor
    · rintro (⟨c, q, h1, h2, h3⟩ | ⟨q, h1, h2⟩)
      · exact ⟨c, q, by omega, h2, h3⟩
      · exact ⟨k, q, by omega, h1, h2⟩
    · rintro ⟨c, q, h1, h2, h3⟩
      by_cases h : c = k
      · subst h; exact .inr ⟨q, h2, h3⟩
      · exact .inl ⟨c, q, by omega, h2, h3⟩
abbrev bareL (b : Bg) (l : List Int) : Nat := bareN b l l.length
theorem sq_uniq {N r c q d : Nat} (hc : c < N) (hd : d < N) (h : r * N + c = q * N + d) : r = q ∧ c = d := by
  have h1 : (r * N + c) / N = r := by rw [Nat.mul_comm, Nat.mul_add_div (by omega), Nat.div_eq_of_lt hc]; omega
  have h2 : (q * N + d) / N = q := by rw [Nat.mul_comm, Nat.mul_add_div (by omega), Nat.div_eq_of_lt hd]; omega
  have h3 : r = q := by rw [← h1, ← h2, h]
  subst h3
  exact ⟨rfl, by omega⟩
theorem bare_sq {b : Bg} {l : List Int} (ok : LsOk b l) {r c : Nat} (hc : c < l.length) : (bareL b l).testBit (r * b.worth.length + c) = decide (r < (ata l c).toNat) := by
  rw [Bool.eq_iff_iff, bare_bit, decide_eq_true_eq]
  constructor
  · rintro ⟨d, q, h1, h2, h3⟩
    obtain ⟨rfl, rfl⟩ := sq_uniq (by rw [← ok.len]; exact hc) (by rw [← ok.len]; exact h1) h3
    exact h2
  · intro h
    exact ⟨c, r, hc, h, rfl⟩
theorem le_full {n : Mn} {v : Nat} : v ≤ full n ↔ ∀ i, v.testBit i = true → i < n.r * n.c := by
  have h1 : full n + 1 = 2 ^ (n.r * n.c) := by
    have := Nat.two_pow_pos (n.r * n.c)
    unfold full; omega
  constructor
  · intro h i hi
    rcases Nat.lt_or_ge i (n.r * n.c) with h2 | h2
    · exact h2
    · have h3 : v < 2 ^ i := Nat.lt_of_lt_of_le (by omega : v < 2 ^ (n.r * n.c)) (Nat.pow_le_pow_right (by decide) h2)
      rw [Nat.testBit_lt_two_pow h3] at hi; cases hi
  · intro h
    have : v < 2 ^ (n.r * n.c) := by
      apply Nat.lt_pow_two_of_testBit
      intro i hi
      cases hv : v.testBit i with
      | false => rfl
      | true => have := h i hv; omega
    omega
theorem bare_full {b : Bg} {l : List Int} (ok : LsOk b l) (n : Int) : bareL b l ≤ full (mnOf b n) := le_full.2 fun i hi => by
  obtain ⟨c, q, h1, h2, rfl⟩ := (bare_bit _ _).1 hi
  have h3 := ok.bd c h1
  have h4 : q < b.dep := by omega
  have h5 := ok.len
  have : (q + 1) * b.worth.length ≤ b.dep * b.worth.length := Nat.mul_le_mul_right _ h4
  rw [Nat.add_mul] at this
  show _ < b.dep * b.worth.length
  omega
theorem bare_mono {b : Bg} {l m : List Int} (hl : l.length = m.length) (h : ∀ i, i < l.length → ata l i ≤ ata m i) {i : Nat} (hi : (bareL b l).testBit i = true) : (bareL b m).testBit i = true := by
  obtain ⟨c, q, h1, h2, h3⟩ := (bare_bit _ _).1 hi
  have := h c h1
  exact (bare_bit _ _).2 ⟨c, q, by omega, by omega, h3⟩
structure CsOk (b : Bg) (h : Hp) (n : Int) (c : Cs) : Prop where
  hol : LsOk b c.hollow
  rt : rightB c.hollow = true
  tlen : c.turves.length = h.ground.length
  tnn : ∀ i, i < h.ground.length → 0 ≤ ata c.turves i
  calm : calmB h c.turves
  dry : ∀ i, c.wet.testBit i = true → (bareL b c.hollow).testBit i = true
  day0 : 0 ≤ c.day
  day : c.day ≤ c.orders.length
  ld0 : 0 ≤ c.loaded
  cut : c.cut = sm (ata c.hollow) c.hollow.length
  bal : sm (ata c.turves) c.turves.length + c.loaded ≤ c.cut
  money : c.money = worth b c.hollow + c.loaded
  ord : c.orders.length ≤ 100
  txs : ∀ T ∈ c.orders, isTx T = true
section
variable {b : Bg} {h : Hp} {n : Int} {c : Cs}
theorem CsOk.wet (ok : CsOk b h n c) (n : Int) : c.wet ≤ full (mnOf b n) := le_full.2 fun i hi => le_full.1 (bare_full ok.hol n) i (ok.dry i hi)
theorem CsOk.hol0 (ok : CsOk b h n c) : holV b c.hollow = 0 := hol_yes ok.hol.v ok.rt
theorem CsOk.t30 (ok : CsOk b h n c) (v : VH h) : H.Hpg30 h c.turves := ⟨ok.tlen, fun i hi => ⟨ok.tnn i hi, by have := ok.calm i hi; have := v.lim12 hi; omega⟩⟩
theorem CsOk.chk (ok : CsOk b h n c) (F : Fn b h n) : H.checkE h [c.turves] = 0 := H.check_yes F.hv fun j a ha => by
  match j, ha with
  | 0, ha => cases ha; exact H.hpgB_mk (ok.t30 F.vh)
theorem CsOk.cutb (ok : CsOk b h n c) : 0 ≤ c.cut ∧ c.cut ≤ 24 := by
  rw [ok.cut]
  have h1 := ok.hol.bg.d4
  have h2 := ok.hol.bg.n6
  have h3 := ok.hol.len
  refine ⟨sm_nonneg fun i hi => (ok.hol.bd i hi).1, ?_⟩
  have := sm_le (f := ata c.hollow) (g := fun _ => 4) (n := c.hollow.length) fun i hi => by have := ok.hol.bd i hi; omega
  rw [Go.Ab.Heap.sm_const] at this
  omega
theorem CsOk.tsum (ok : CsOk b h n c) : 0 ≤ sm (ata c.turves) c.turves.length := sm_nonneg fun i hi => ok.tnn i (by rw [← ok.tlen]; exact hi)
theorem CsOk.ldb (ok : CsOk b h n c) : c.loaded ≤ 24 := by have := ok.cutb; have := ok.bal; have := ok.tsum; omega
theorem CsOk.monb (ok : CsOk b h n c) : -2000 ≤ c.money ∧ c.money ≤ 2000 := by
  have h1 := worW_bd ok.hol c.hollow.length (Nat.le_refl _)
  have h2 := ok.hol.len
  have h3 := ok.hol.bg.n6
  have h4 := ok.ldb
  have h5 := ok.ld0
  have h6 := ok.money
  unfold worth at h6
  omega
end
theorem cs0_ok {b : Bg} {h : Hp} {n : Int} (F : Fn b h n) : CsOk b h n (cs0 b.worth.length) := by
  have e : ∀ i, ata (List.replicate b.worth.length 0) i = 0 := fun i => by
    unfold ata
    rw [List.getD_eq_getElem?_getD, List.getElem?_replicate]
    split <;> rfl
  have e0 : sm (ata (List.replicate b.worth.length 0)) b.worth.length = 0 := by
    rw [sm_congr (g := fun _ => 0) fun i _ => e i, Go.Ab.Heap.sm_zero]
  refine ⟨⟨F.bg, by simp [cs0], fun i hi => ?_⟩, right_ok fun c h1 h2 => ?_, ?_, fun i hi => ?_, fun i hi => ?_, fun i hi => ?_, ?_, ?_, ?_, ?_, ?_, ?_, ?_, ?_⟩
  · show 0 ≤ ata (List.replicate b.worth.length 0) i ∧ ata (List.replicate b.worth.length 0) i ≤ _
    rw [e]; omega
  · show gap (List.replicate b.worth.length 0) c = true
    unfold gap; rw [e, e]; rfl
  · simp [cs0, F.len]
  · show 0 ≤ ata (List.replicate b.worth.length 0) i
    rw [e]; omega
  · show ata (List.replicate b.worth.length 0) i < _
    rw [e]; have := F.vh.lim1 hi; omega
  · simp [cs0] at hi
  · simp [cs0]
  · simp [cs0]
  · simp [cs0]
  · simp only [cs0, List.length_replicate]; rw [e0]
  · simp only [cs0, List.length_replicate]; rw [e0]; omega
  · simp only [cs0]
    unfold worth worW
    rw [List.length_replicate, sm_congr (g := fun _ => 0) fun i _ => by rw [e]; rfl, Go.Ab.Heap.sm_zero]; rfl
  · simp [cs0]
  · simp [cs0]
def dayL (b : Bg) (n : Int) (c : Cs) : Cs := { c with day := c.day + 1, wet := c.wet ||| ((c.wet ||| rdN (mnOf b n) c.wet) &&& bareL b c.hollow) }
noncomputable def digS (b : Bg) (h : Hp) (c : Cs) (k : Nat) : Cs := { c with hollow := dug c.hollow k, turves := stl h (H.bump c.turves k), money := c.money + ata (b.col k) (ata c.hollow k).toNat, cut := c.cut + 1 }
def aboveB (b : Bg) (c : Cs) (k : Nat) : Bool := decide (0 < ata c.hollow k) && c.wet.testBit (((ata c.hollow k).toNat - 1) * b.worth.length + k)
def digE (b : Bg) (c : Cs) (k : Nat) : Int := if b.worth.length ≤ k then 4 else if c.shut then 8 else if !openB b c.hollow k || aboveB b c k then 6 else 0
def loadS (c : Cs) (i m : Nat) : Cs := { c with turves := c.turves.set i (ata c.turves i - m), loaded := c.loaded + m, money := c.money + m }
def loadE (c : Cs) (i m : Nat) : Int := if c.turves.length ≤ i then 4 else if m = 0 then 1 else if ata c.turves i < m then 11 else 0
def layS (b : Bg) (c : Cs) (r k : Nat) : Cs := { c with wet := c.wet ||| 2 ^ (r * b.worth.length + k) }
def layE (b : Bg) (c : Cs) (r k : Nat) : Int := if b.dep ≤ r ∨ b.worth.length ≤ k then 4 else if ata c.hollow k ≤ r then 8 else if c.wet.testBit (r * b.worth.length + k) then 5 else 0
def exeE (b : Bg) (c : Cs) (o : Nat × List Nat) : Int :=
  match o.1 with
  | 0 => 0
  | 1 => digE b c (o.2.getD 0 0)
  | 2 => loadE c (o.2.getD 0 0) (o.2.getD 1 0)
  | 3 => layE b c (o.2.getD 0 0) (o.2.getD 1 0)
  | _ => if c.shut then 5 else 0
noncomputable def exeS (b : Bg) (h : Hp) (n : Int) (c : Cs) (o : Nat × List Nat) : Cs :=
  match o.1 with
  | 0 => dayL b n c
  | 1 => digS b h c (o.2.getD 0 0)
  | 2 => loadS c (o.2.getD 0 0) (o.2.getD 1 0)
  | 3 => layS b c (o.2.getD 0 0) (o.2.getD 1 0)
  | _ => { c with shut := true }
def doE (b : Bg) (c : Cs) (T : Tx) : Int :=
  match parseL T with
  | none => 2
  | some o => if 100 ≤ c.orders.length then 3 else exeE b c o
noncomputable def doS (b : Bg) (h : Hp) (n : Int) (c : Cs) (T : Tx) : Cs :=
  if doE b c T = 0 then { exeS b h n c ((parseL T).getD (0, [])) with orders := c.orders ++ [T] } else c
theorem do_bad {b : Bg} {h : Hp} {n : Int} {c : Cs} {T : Tx} (e : doE b c T ≠ 0) : doS b h n c T = c := by unfold doS; rw [if_neg e]
theorem do_good {b : Bg} {h : Hp} {n : Int} {c : Cs} {T : Tx} (e : doE b c T = 0) : ∃ o, parseL T = some o ∧ c.orders.length < 100 ∧ exeE b c o = 0 ∧ doS b h n c T = { exeS b h n c o with orders := c.orders ++ [T] } := by
  have e0 := e
  unfold doE at e
  split at e
  · cases e
  · rename_i o ho
    split at e
    · cases e
    · rename_i hl
      refine ⟨o, ho, by omega, e, ?_⟩
      unfold doS
      rw [if_pos e0, ho]; rfl
theorem do_orders {b : Bg} {h : Hp} {n : Int} {c : Cs} {T : Tx} : (doS b h n c T).orders = if doE b c T = 0 then c.orders ++ [T] else c.orders := by
  unfold doS
  split <;> rfl
section
variable {b : Bg} {h : Hp} {n : Int} {c : Cs}
theorem day_ok (F : Fn b h n) (ok : CsOk b h n c) {T : Tx} (hT : isTx T = true) (hl : c.orders.length < 100) : CsOk b h n { dayL b n c with orders := c.orders ++ [T] } := by
  refine { ok with dry := fun i hi => ?_, day0 := ?_, day := ?_, ord := ?_, txs := ?_ }
  · have hi' : (c.wet ||| ((c.wet ||| rdN (mnOf b n) c.wet) &&& bareL b c.hollow)).testBit i = true := hi
    rw [Nat.testBit_or, Bool.or_eq_true, Nat.testBit_and, Bool.and_eq_true] at hi'
    rcases hi' with h1 | h1
    · exact ok.dry i h1
    · exact h1.2
  · show 0 ≤ c.day + 1
    have := ok.day0; omega
  · show c.day + 1 ≤ ((c.orders ++ [T]).length : Int)
    have := ok.day; simp; omega
  · simp; omega
  · intro U hU
    rcases List.mem_append.1 hU with hU | hU
    · exact ok.txs U hU
    · simp only [List.mem_singleton] at hU; subst hU; exact hT
theorem CsOk.more (ok : CsOk b h n c) {T : Tx} (hT : isTx T = true) (hl : c.orders.length < 100) : CsOk b h n { c with orders := c.orders ++ [T] } := by
  refine { ok with day := ?_, ord := ?_, txs := ?_ }
  · have := ok.day; simp; omega
  · simp; omega
  · intro U hU
    rcases List.mem_append.1 hU with hU | hU
    · exact ok.txs U hU
    · simp only [List.mem_singleton] at hU; subst hU; exact hT
theorem digE_0 {k : Nat} (e : digE b c k = 0) : k < b.worth.length ∧ c.shut = false ∧ openB b c.hollow k = true ∧ aboveB b c k = false := by
  unfold digE at e
  split at e
  · cases e
  · split at e
    · cases e
    · split at e
      · cases e
      · rename_i h1 h2 h3
        refine ⟨by omega, by simpa using h2, ?_, ?_⟩
        · cases hq : openB b c.hollow k with
          | true => rfl
          | false => rw [hq] at h3; simp at h3
        · cases hq : aboveB b c k with
          | false => rfl
          | true => rw [hq] at h3; simp at h3
theorem dig_ok (F : Fn b h n) (ok : CsOk b h n c) {k : Nat} (e : digE b c k = 0) : CsOk b h n (digS b h c k) := by
  obtain ⟨h1, _, h3, _⟩ := digE_0 e
  have hk : k < c.hollow.length := by rw [ok.hol.len]; exact h1
  have hkh : k < h.ground.length := by rw [F.len]; exact h1
  have hbd := ok.hol.bd k hk
  unfold openB at h3
  simp only [Bool.and_eq_true, decide_eq_true_eq] at h3
  have hf := H.bump_fit (ok.t30 F.vh) hkh
  obtain ⟨I, hc⟩ := stl_spec F.vh hf.hpg
  have hb : sm (ata (H.bump c.turves k)) h.ground.length = sm (ata c.turves) h.ground.length + 1 := by
    unfold H.bump
    rw [sm_set ok.tlen hkh]; omega
  have hs := I.sum F.vh
  have hlen : (stl h (H.bump c.turves k)).length = h.ground.length := H.stl_len
  refine ⟨⟨F.bg, ?_, fun i hi => ?_⟩, h3.2, hlen, I.c0, hc, fun i hi => ?_, ok.day0, ok.day, ok.ld0, ?_, ?_, ?_, ok.ord, ok.txs⟩
  · show (dug c.hollow k).length = _
    rw [dug_len]; exact ok.hol.len
  · show 0 ≤ ata (dug c.hollow k) i ∧ ata (dug c.hollow k) i ≤ _
    have hi' : i < c.hollow.length := by
      have : i < (dug c.hollow k).length := hi
      rwa [dug_len] at this
    have := ok.hol.bd i hi'
    rw [dug_at hk]
    split <;> omega
  · refine bare_mono (l := c.hollow) (m := dug c.hollow k) dug_len.symm (fun j hj => ?_) (ok.dry i hi)
    rw [dug_at hk]
    split
    · rename_i e; subst e; omega
    · exact Int.le_refl _
  · show c.cut + 1 = sm (ata (dug c.hollow k)) (dug c.hollow k).length
    rw [dug_sum hk, ok.cut]
  · show sm (ata (stl h (H.bump c.turves k))) (stl h (H.bump c.turves k)).length + c.loaded ≤ c.cut + 1
    have := ok.bal
    rw [ok.tlen] at this
    rw [hlen]; omega
  · show c.money + ata (b.col k) (ata c.hollow k).toNat = worth b (dug c.hollow k) + c.loaded
    rw [dug_worth hk hbd.1, ok.money]; omega
theorem loadE_0 {i m : Nat} (e : loadE c i m = 0) : i < c.turves.length ∧ m ≠ 0 ∧ (m : Int) ≤ ata c.turves i := by
  unfold loadE at e
  split at e
  · cases e
  · split at e
    · cases e
    · split at e
      · cases e
      · exact ⟨by omega, by assumption, by omega⟩
theorem load_ok (F : Fn b h n) (ok : CsOk b h n c) {i m : Nat} (e : loadE c i m = 0) : CsOk b h n (loadS c i m) := by
  obtain ⟨h1, h2, h3⟩ := loadE_0 e
  have hl := ok.tlen
  have ha : ∀ j, ata (c.turves.set i (ata c.turves i - m)) j = if j = i then ata c.turves i - m else ata c.turves j := fun j => ata_set h1
  refine ⟨ok.hol, ok.rt, ?_, fun j hj => ?_, fun j hj => ?_, ok.dry, ok.day0, ok.day, ?_, ok.cut, ?_, ?_, ok.ord, ok.txs⟩
  · show (c.turves.set i _).length = _
    rw [List.length_set]; exact hl
  · show 0 ≤ ata (c.turves.set i (ata c.turves i - m)) j
    rw [ha]
    have := ok.tnn j hj
    split <;> omega
  · show ata (c.turves.set i (ata c.turves i - m)) j < _
    rw [ha]
    have := ok.calm j hj
    split
    · rename_i e; subst e; omega
    · exact this
  · show 0 ≤ c.loaded + m
    have := ok.ld0; omega
  · show sm (ata (c.turves.set i (ata c.turves i - m))) (c.turves.set i (ata c.turves i - m)).length + (c.loaded + m) ≤ c.cut
    rw [List.length_set, sm_set rfl h1]
    have := ok.bal; omega
  · show c.money + m = worth b c.hollow + (c.loaded + m)
    rw [ok.money]; omega
theorem layE_0 {r k : Nat} (e : layE b c r k = 0) : r < b.dep ∧ k < b.worth.length ∧ (r : Int) < ata c.hollow k ∧ c.wet.testBit (r * b.worth.length + k) = false := by
  unfold layE at e
  split at e
  · cases e
  · split at e
    · cases e
    · split at e
      · cases e
      · rename_i h1 h2 h3
        refine ⟨by omega, by omega, by omega, by simpa using h3⟩
theorem lay_ok (F : Fn b h n) (ok : CsOk b h n c) {r k : Nat} (e : layE b c r k = 0) : CsOk b h n (layS b c r k) := by
  obtain ⟨h1, h2, h3, _⟩ := layE_0 e
  refine { ok with dry := fun i hi => ?_ }
  have hi' : (c.wet ||| 2 ^ (r * b.worth.length + k)).testBit i = true := hi
  rw [Nat.testBit_or, Bool.or_eq_true, Nat.testBit_two_pow, decide_eq_true_eq] at hi'
  rcases hi' with h4 | h4
  · exact ok.dry i h4
  · subst h4
    show (bareL b c.hollow).testBit _ = true
    rw [bare_sq ok.hol (by rw [ok.hol.len]; exact h2), decide_eq_true_eq]; omega
theorem do_ok (F : Fn b h n) (ok : CsOk b h n c) (T : Tx) : CsOk b h n (doS b h n c T) := by
  by_cases e : doE b c T = 0
  · obtain ⟨o, h1, h2, h3, h4⟩ := do_good (h := h) (n := n) e
    have hT := parse_isTx h1
    rw [h4]
    obtain ⟨k, l⟩ := o
    match k, h3 with
    | 0, _ => exact day_ok F ok hT h2
    | 1, h3 => exact (dig_ok F ok h3).more (c := digS b h c (l.getD 0 0)) hT h2
    | 2, h3 => exact (load_ok F ok h3).more (c := loadS c (l.getD 0 0) (l.getD 1 0)) hT h2
    | 3, h3 => exact (lay_ok F ok h3).more (c := layS b c (l.getD 0 0) (l.getD 1 0)) hT h2
    | k + 4, _ =>
      have ok2 : CsOk b h n { c with shut := true } := { ok with }
      exact ok2.more (c := { c with shut := true }) hT h2
  · rw [do_bad e]; exact ok
end
noncomputable def runL (b : Bg) (h : Hp) (n : Int) (c : Cs) (l : List Tx) : Cs := l.foldl (doS b h n) c
theorem run_snoc {b : Bg} {h : Hp} {n : Int} {c : Cs} {l : List Tx} {i : Nat} (hi : i < l.length) : runL b h n c (l.take (i + 1)) = doS b h n (runL b h n c (l.take i)) l[i] := by
  unfold runL
  rw [List.take_succ_eq_append_getElem hi, List.foldl_append]; rfl
theorem run_app {b : Bg} {h : Hp} {n : Int} {c : Cs} {l m : List Tx} : runL b h n c (l ++ m) = runL b h n (runL b h n c l) m := by unfold runL; rw [List.foldl_append]
def OkL (b : Bg) (h : Hp) (n : Int) (c : Cs) (l : List Tx) : Prop := ∀ i (hi : i < l.length), doE b (runL b h n c (l.take i)) l[i] = 0
section
variable {b : Bg} {h : Hp} {n : Int}
theorem OkL.snoc {c : Cs} {l : List Tx} {T : Tx} (o : OkL b h n c l) (e : doE b (runL b h n c l) T = 0) : OkL b h n c (l ++ [T]) := by
  intro i hi
  rcases Nat.lt_or_ge i l.length with h1 | h1
  · rw [List.take_append_of_le_length (by omega), List.getElem_append_left h1]; exact o i h1
  · have : i = l.length := by simp at hi; omega
    subst this
    rw [List.take_append_of_le_length (Nat.le_refl _), List.take_length, List.getElem_append_right (Nat.le_refl _)]
    simpa using e
theorem OkL.take {c : Cs} {l : List Tx} (o : OkL b h n c l) (m : Nat) : OkL b h n c (l.take m) := by
  intro i hi
  have hi2 : i < l.length := by simp at hi; omega
  have hi3 : i < m := by simp at hi; omega
  rw [List.take_take, Nat.min_eq_left (by omega), List.getElem_take]
  exact o i hi2
theorem OkL.orders {c : Cs} : ∀ {l : List Tx}, OkL b h n c l → ∀ m, m ≤ l.length → (runL b h n c (l.take m)).orders = c.orders ++ l.take m
  | l, o, 0, _ => by simp [runL]
  | l, o, m + 1, hm => by
    have ih := OkL.orders o m (by omega)
    rw [run_snoc (by omega), do_orders, if_pos (o m (by omega)), ih, List.append_assoc, ← List.take_succ_eq_append_getElem]
structure Rch (b : Bg) (h : Hp) (n : Int) (c : Cs) : Prop where
  ok : OkL b h n (cs0 b.worth.length) c.orders
  eq : runL b h n (cs0 b.worth.length) c.orders = c
theorem Rch.step {c : Cs} (r : Rch b h n c) (T : Tx) : Rch b h n (doS b h n c T) := by
  by_cases e : doE b c T = 0
  · have ho : (doS b h n c T).orders = c.orders ++ [T] := by rw [do_orders, if_pos e]
    refine ⟨by rw [ho]; exact r.ok.snoc (by rw [r.eq]; exact e), ?_⟩
    rw [ho, run_app, r.eq]; rfl
  · rw [do_bad e]; exact r
theorem Rch.run : ∀ (l : List Tx) {c : Cs}, Rch b h n c → Rch b h n (runL b h n c l)
  | [], _, r => r
  | T :: l, c, r => Rch.run l (c := doS b h n c T) (r.step T)
theorem Rch.part {c : Cs} (r : Rch b h n c) (m : Nat) : Rch b h n (runL b h n (cs0 b.worth.length) (c.orders.take m)) ∧ (runL b h n (cs0 b.worth.length) (c.orders.take m)).orders = c.orders.take m := by
  have e : (runL b h n (cs0 b.worth.length) (c.orders.take m)).orders = c.orders.take m := by
    have := (r.ok.take m).orders (m := (c.orders.take m).length) (Nat.le_refl _)
    rw [List.take_length] at this
    rw [this]; rfl
  exact ⟨⟨by rw [e]; exact r.ok.take m, by rw [e]⟩, e⟩
end
section
variable {b : Bg} {h : Hp} {n : Int}
end
end Go.Ab.Tryz
set_option linter.all false
namespace Go.Ab.Tryz
open Go Go.Ab Go.Proofs Go.RowKit Go.Extern.Stop Go.Stop Go.Extern
theorem as_nil (t : Value) (w : World) :
    Calls Tryz.prog 100 #[.nilIface, t] w fun e w' => e = .returned (.bool false) ∧ w' = w := by
  go_enter Tryz.func100, Tryz.ntmps100
  go_wp2
  go_ret
  exact ⟨rfl, rfl⟩
theorem valueOf135 (t : Addr) (w : World) : (ReflectliteValue.unpack (.iface 135 (.pointer (some t)))).run Tryz.prog w
    = .ok (.agg #[.pointer (some ⟨9, 135, none⟩), .pointer (some ⟨w.heap.size, 0, none⟩), .int .u64 150]) (w.alloc (.cells #[.pointer (some t)] 135)) := by kernel_rfl
theorem type135 (a : Addr) (w : World) : (ReflectliteValue.methodAny (ReflectliteValue.valueError "reflectlite.Value.Type" 0) (fun t _ _ _ => ReflectliteType.toType t) #[.agg #[.pointer (some ⟨9, 135, none⟩), .pointer (some a), .int .u64 150]]).run Tryz.prog w
    = .ok (.iface 210 (.agg #[.pointer (some ⟨9, 135, none⟩)])) w := by kernel_rfl
theorem kind135 (w : World) : ((ReflectliteType.abiMethod fun t => (fun a : Nat => Value.int IntKind.u8 (a : Int)) <$> Rtype.kind t) #[.pointer (some ⟨9, 135, none⟩)]).run Tryz.prog w = .ok (.int .u8 22) w := by kernel_rfl
theorem kind133 (w : World) : ((ReflectliteType.abiMethod fun t => (fun a : Nat => Value.int IntKind.u8 (a : Int)) <$> Rtype.kind t) #[.pointer (some ⟨9, 133, none⟩)]).run Tryz.prog w = .ok (.int .u8 25) w := by kernel_rfl
theorem rlm (z : Sem Value) (f : TypeId → Addr → Nat → Nat → Sem Value) (v : Value) :
    ReflectliteValue.method z f #[v] = (do match ← ReflectliteValue.parts v with | none => z | some (t, a, fl) => f t a fl (fl % 32)) := rfl
theorem parts135 (a : Addr) (w : World) : (ReflectliteValue.parts (.agg #[.pointer (some ⟨9, 135, none⟩), .pointer (some a), .int .u64 150])).run Tryz.prog w = .ok (some (135, a, 150)) w := by kernel_rfl
theorem isNil135 (a p : Addr) (W : World) (ha : W.cell? a = some (.pointer (some p))) :
    (ReflectliteValue.method (ReflectliteValue.valueError "reflectlite.Value.IsNil" 0) ReflectliteValue.isNil #[.agg #[.pointer (some ⟨9, 135, none⟩), .pointer (some a), .int .u64 150]]).run Tryz.prog W = .ok (.bool false) W := by
  rw [rlm]
  simp only [Sem.run_bind, parts135, Result.andThen]
  simp [ReflectliteValue.isNil, loadVar, isAgg, underlying, Tryz.underlying135, ha, Result.andThen]
theorem elem135 (w : World) : (ReflectliteType.method ReflectliteType.elem #[.agg #[.pointer (some ⟨9, 135, none⟩)]]).run Tryz.prog w = .ok (.iface 210 (.agg #[.pointer (some ⟨9, 133, none⟩)])) w := by kernel_rfl
theorem implements133 (w : World) : (ReflectliteType.relation "Implements" ReflectliteType.implements_ #[.agg #[.pointer (some ⟨9, 133, none⟩)], .iface 210 (.agg #[.pointer (some ⟨9, 103, none⟩)])]).run Tryz.prog w = .ok (.bool true) w := by kernel_rfl
theorem typeOf133 (v : Value) (w : World) : (ReflectliteType.typeOf #[.iface 133 v]).run Tryz.prog w = .ok (.iface 210 (.agg #[.pointer (some ⟨9, 133, none⟩)])) w := by kernel_rfl
theorem assignable133 (w : World) : (ReflectliteType.relation "AssignableTo" ReflectliteType.assignableTo #[.agg #[.pointer (some ⟨9, 133, none⟩)], .iface 210 (.agg #[.pointer (some ⟨9, 133, none⟩)])]).run Tryz.prog w = .ok (.bool true) w := by kernel_rfl
theorem valueOf133 (e : Int) (w : World) : (ReflectliteValue.unpack (.iface 133 (.agg #[.int .i64 e]))).run Tryz.prog w
    = .ok (.agg #[.pointer (some ⟨9, 133, none⟩), .pointer (some ⟨w.heap.size, 0, none⟩), .int .u64 153]) (w.alloc (.cells #[.int .i64 e] 133)) := by kernel_rfl
theorem elemOf135 (w : World) : (Rtype.elem? 135).run Tryz.prog w = .ok (some 133) w := by kernel_rfl
theorem mk133 (p : Addr) (w : World) : (ReflectliteValue.mk 133 p ReflectliteValue.flagAddr).run Tryz.prog w = .ok (.agg #[.pointer (some ⟨9, 133, none⟩), .pointer (some p), .int .u64 409]) w := by kernel_rfl
theorem elemV135 (a p : Addr) (W : World) (ha : W.cell? a = some (.pointer (some p))) :
    (ReflectliteValue.method (ReflectliteValue.valueError "reflectlite.Value.Elem" 0) ReflectliteValue.elem #[.agg #[.pointer (some ⟨9, 135, none⟩), .pointer (some a), .int .u64 150]]).run Tryz.prog W
      = .ok (.agg #[.pointer (some ⟨9, 133, none⟩), .pointer (some p), .int .u64 409]) W := by
  rw [rlm]
  simp only [Sem.run_bind, parts135, Result.andThen]
  simp [ReflectliteValue.elem, loadVar, isAgg, underlying, Tryz.underlying135, ha, Result.andThen, elemOf135, mk133]
theorem parts133a (a : Addr) (w : World) : (ReflectliteValue.parts (.agg #[.pointer (some ⟨9, 133, none⟩), .pointer (some a), .int .u64 409])).run Tryz.prog w = .ok (some (133, a, 409)) w := by kernel_rfl
theorem parts133 (a : Addr) (w : World) : (ReflectliteValue.parts (.agg #[.pointer (some ⟨9, 133, none⟩), .pointer (some a), .int .u64 153])).run Tryz.prog w = .ok (some (133, a, 153)) w := by kernel_rfl
theorem direct133 (w : World) : (Rtype.directlyAssignable 133 133).run Tryz.prog w = .ok true w := by kernel_rfl
theorem rls (v x : Value) : ReflectliteValue.set #[v, x] = (do
    let (some (dst, a, fl), some (src, b, _)) := (← ReflectliteValue.parts v, ← ReflectliteValue.parts x)
      | unsupported (.noEntry "extern/(internal/reflectlite.Value).Set.zeroValue")
    if fl / ReflectliteValue.flagAddr % 2 == 0 then unsupported (.noEntry "extern/(internal/reflectlite.Value).Set.unaddressable")
    let val ← loadVar src b
    if ← Rtype.directlyAssignable dst src then storeVar dst a val
    else if ← Rtype.implements dst src then
      if (← Rtype.kind src) == 20 then
        match val with
        | .nilIface => unsupported (.noEntry "extern/reflectlite: a nil value of one interface type handed on as a value of another")
        | _ => storeVar dst a val
      else storeVar dst a (.iface src val)
    else panicString ("reflectlite.Set: value of type " ++ (← Rtype.spelt src) ++ " is not assignable to type " ++ (← Rtype.spelt dst))
    pure (.tuple #[])) := rfl
theorem set133 (ta b : Addr) (e : Int) (old : Value) (W : World) (hb : W.cell? b = some (.int .i64 e)) (ht : W.cell? ta = some old) (hf : W.frozen? ta = false) :
    (ReflectliteValue.set #[.agg #[.pointer (some ⟨9, 133, none⟩), .pointer (some ta), .int .u64 409], .agg #[.pointer (some ⟨9, 133, none⟩), .pointer (some b), .int .u64 153]]).run Tryz.prog W
      = .ok (.tuple #[]) (W.setCell ta (.int .i64 e)) := by
  have hl : (loadVar 133 b).run Tryz.prog W = .ok (.agg #[.int .i64 e]) W := by
    have a1 := Tryz.isAgg133
    have a2 := Tryz.sizeOf133
    simp [loadVar, a1, a2, loadCells, loadCellsFrom, hb, Result.andThen, Addr.add]
  have hs : (storeVar 133 ta (.agg #[.int .i64 e])).run Tryz.prog W = .ok () (W.setCell ta (.int .i64 e)) := by
    simp [storeVar, Value.cells, storeCells, Addr.add]
    rw [run_store Tryz.prog W ta _ _ (by rfl)]
    simp [ht, hf]
  rw [rls]
  simp only [Sem.run_bind, parts133a, parts133, Result.andThen]
  simp [ReflectliteValue.flagAddr, hl, Result.andThen, direct133, hs]
theorem methodKind (h : Value) (w : World) : (Go.method 406 210 (.agg #[h]) "Kind").run Tryz.prog w = .ok (253, h) w := by kernel_rfl
theorem methodElem (h : Value) (w : World) : (Go.method 406 210 (.agg #[h]) "Elem").run Tryz.prog w = .ok (264, .agg #[h]) w := by kernel_rfl
theorem methodImplements (h : Value) (w : World) : (Go.method 406 210 (.agg #[h]) "Implements").run Tryz.prog w = .ok (265, .agg #[h]) w := by kernel_rfl
theorem methodAssignableTo (h : Value) (w : World) : (Go.method 406 210 (.agg #[h]) "AssignableTo").run Tryz.prog w = .ok (262, .agg #[h]) w := by kernel_rfl
set_option maxHeartbeats 4000000 in
theorem as_hit (e : Int) (t : Addr) (old : Value) (w : World) (hg : w.cell? ⟨0, 0, none⟩ = some (.iface 210 (.agg #[.pointer (some ⟨9, 103, none⟩)]))) (ht0 : w.cell? t = some old) (hf0 : w.frozen? t = false) :
    Calls Tryz.prog 100 #[.iface 133 (.agg #[.int .i64 e]), .iface 135 (.pointer (some t))] w fun ev w' => ev = .returned (.bool true) ∧ w' = ((((w.alloc (.cells #[.pointer (some t)] 135)).alloc (.cells #[.pointer (some ⟨9, 135, none⟩), .pointer (some ⟨w.heap.size, 0, none⟩), .int .u64 150] 179)).alloc (.cells #[.pointer (some ⟨9, 135, none⟩), .pointer (some ⟨w.heap.size, 0, none⟩), .int .u64 150] 179)).alloc (.cells #[.int .i64 e] 133)).setCell t (.int .i64 e) := by
  have h6 := @run_callFunc_extern Tryz.prog 144 _ (fun args => ReflectliteValue.unpack (args.getD 0 (.tuple #[]))) Tryz.func144 (by kernel_rfl) (by kernel_rfl) (by kernel_rfl) (by kernel_rfl)
  have h7 := @run_callFunc_extern Tryz.prog 145 _ (ReflectliteValue.methodAny (ReflectliteValue.valueError "reflectlite.Value.Type" 0) (fun t _ _ _ => ReflectliteType.toType t)) Tryz.func145 (by kernel_rfl) (by kernel_rfl) (by kernel_rfl) (by kernel_rfl)
  have h8 := @run_callFunc_extern Tryz.prog 146 _ (ReflectliteValue.method (ReflectliteValue.valueError "reflectlite.Value.IsNil" 0) ReflectliteValue.isNil) Tryz.func146 (by kernel_rfl) (by kernel_rfl) (by kernel_rfl) (by kernel_rfl)
  have h27 := @run_callFunc_extern Tryz.prog 253 _ (ReflectliteType.abiMethod fun t => do pure (.int .u8 (← Rtype.kind t))) Tryz.func253 (by kernel_rfl) (by kernel_rfl) (by kernel_rfl) (by kernel_rfl)
  have h37 := @run_callFunc_extern Tryz.prog 264 _ (ReflectliteType.method ReflectliteType.elem) Tryz.func264 (by kernel_rfl) (by kernel_rfl) (by kernel_rfl) (by kernel_rfl)
  have h38 := @run_callFunc_extern Tryz.prog 265 _ (ReflectliteType.relation "Implements" ReflectliteType.implements_) Tryz.func265 (by kernel_rfl) (by kernel_rfl) (by kernel_rfl) (by kernel_rfl)
  have h10 := @run_callFunc_extern Tryz.prog 175 _ ReflectliteType.typeOf Tryz.func175 (by kernel_rfl) (by kernel_rfl) (by kernel_rfl) (by kernel_rfl)
  have h35 := @run_callFunc_extern Tryz.prog 262 _ (ReflectliteType.relation "AssignableTo" ReflectliteType.assignableTo) Tryz.func262 (by kernel_rfl) (by kernel_rfl) (by kernel_rfl) (by kernel_rfl)
  have h11 := @run_callFunc_extern Tryz.prog 176 _ (ReflectliteValue.method (ReflectliteValue.valueError "reflectlite.Value.Elem" 0) ReflectliteValue.elem) Tryz.func176 (by kernel_rfl) (by kernel_rfl) (by kernel_rfl) (by kernel_rfl)
  have h12 := @run_callFunc_extern Tryz.prog 177 _ ReflectliteValue.set Tryz.func177 (by kernel_rfl) (by kernel_rfl) (by kernel_rfl) (by kernel_rfl)
  have tO := typeOf133
  have mA := methodAssignableTo
  have a25 := assignable133
  have v25 := valueOf133
  have f6 := valueOf135
  have f7 := type135
  have mK := methodKind
  have mE := methodElem
  have mI := methodImplements
  have k27 := kind135
  have k25 := kind133
  have e27 := elem135
  have i25 := implements133
  have n8 := isNil135 ⟨w.heap.size, 0, none⟩ t ((w.alloc (.cells #[.pointer (some t)] 135)).alloc (.cells #[.pointer (some ⟨9, 135, none⟩), .pointer (some ⟨w.heap.size, 0, none⟩), .int .u64 150] 179)) (by simp)
  have hlt : 0 < w.heap.size := by
    rcases Nat.eq_zero_or_pos w.heap.size with h0 | h
    · simp [World.cell?, h0] at hg
    · exact h
  have hg2 : ((w.alloc (.cells #[.pointer (some t)] 135)).alloc (.cells #[.pointer (some ⟨9, 135, none⟩), .pointer (some ⟨w.heap.size, 0, none⟩), .int .u64 150] 179)).cell? ⟨0, 0, none⟩ = some (.iface 210 (.agg #[.pointer (some ⟨9, 103, none⟩)])) := by
    rw [World.cell?_alloc_lt _ _ ⟨0, 0, none⟩ (by simp), World.cell?_alloc_lt _ _ ⟨0, 0, none⟩ hlt]; exact hg
  have htl : t.block < w.heap.size := by
    rcases Nat.lt_or_ge t.block w.heap.size with h | h
    · exact h
    · simp [World.cell?, Array.getElem?_eq_none h] at ht0
  have el := elemV135 ⟨w.heap.size, 0, none⟩ t (((w.alloc (.cells #[.pointer (some t)] 135)).alloc (.cells #[.pointer (some ⟨9, 135, none⟩), .pointer (some ⟨w.heap.size, 0, none⟩), .int .u64 150] 179)).alloc (.cells #[.pointer (some ⟨9, 135, none⟩), .pointer (some ⟨w.heap.size, 0, none⟩), .int .u64 150] 179)) (by rw [World.cell?_alloc_lt _ _ ⟨w.heap.size, 0, none⟩ (by simp; omega)]; simp)
  have st := set133 t ⟨w.heap.size + 1 + 1 + 1, 0, none⟩ e old ((((w.alloc (.cells #[.pointer (some t)] 135)).alloc (.cells #[.pointer (some ⟨9, 135, none⟩), .pointer (some ⟨w.heap.size, 0, none⟩), .int .u64 150] 179)).alloc (.cells #[.pointer (some ⟨9, 135, none⟩), .pointer (some ⟨w.heap.size, 0, none⟩), .int .u64 150] 179)).alloc (.cells #[.int .i64 e] 133))
    (by rw [World.cell?_alloc_at _ _ _ _ (by simp)]; rfl)
    (by rw [World.cell?_alloc_lt _ _ t (by simp; omega), World.cell?_alloc_lt _ _ t (by simp; omega), World.cell?_alloc_lt _ _ t (by simp; omega), World.cell?_alloc_lt _ _ t htl]; exact ht0)
    (by rw [World.frozen?_alloc_old _ _ t (by simp; omega), World.frozen?_alloc_old _ _ t (by simp; omega), World.frozen?_alloc_old _ _ t (by simp; omega), World.frozen?_alloc_old _ _ t (Nat.ne_of_lt htl)]; exact hf0)
  go_enter Tryz.func100, Tryz.ntmps100
  go_wp2
  refine wp_loop_rounds 1 ?_
  rw [rounds_succ]
  go_wp2
  go_ret
  exact ⟨rfl, rfl⟩
end Go.Ab.Tryz
set_option linter.all false
namespace Go.Ab.Tryz
open Go Go.Ab Go.Proofs Go.RowKit
def errD (e : Int) : DV := if e = 0 then .nilIface else .iface 133 (.agg [.int .i64 e])
theorem en64 : EnterP Tryz.prog 64 := ⟨_, Tryz.func64, rfl, rfl⟩
set_option maxHeartbeats 4000000 in
theorem reason_nil (w : World) : Calls Tryz.prog 64 #[.nilIface] w fun e w' => e = .returned (.int .i64 0) ∧ Below w.heap.size w w' := by
  have e100 : ∀ args w, (callFunc 100 args).run Tryz.prog w = .ok (.enter 100 args) w := enters_of Tryz.func100 (by kernel_rfl) rfl
  have t133 := Tryz.underlying133; have a133 := Tryz.isAgg133; have z133 := Tryz.sizeOf133; have v133 := Tryz.zeroValue133; have u133 := run_underlying Tryz.underlying133
  have t135 := Tryz.underlying135; have u135 := run_underlying Tryz.underlying135
  go_enter Tryz.func64, Tryz.ntmps64
  go_wp2_with (go_at_call 100; refine (as_nil _ _).mono ?_; rintro e w' ⟨rfl, rfl⟩)
  go_ret
  exact ⟨rfl, (Below.refl w.heap.size w).alloc (Nat.le_refl _) _⟩
set_option maxHeartbeats 4000000 in
theorem reason_hit (c : Int) (w : World) (hl : Laid w) : Calls Tryz.prog 64 #[.iface 133 (.agg #[.int .i64 c])] w fun e w' => e = .returned (.int .i64 c) ∧ Below w.heap.size w w' := by
  have hg0 : w.cell? ⟨0, 0, none⟩ = some (.iface 210 (.agg #[.pointer (some ⟨9, 103, none⟩)])) := by
    obtain ⟨v, h1, h2⟩ := (hl _ (by simp [laidTab] : (0, [fun v => v = Value.iface 210 (.agg #[.pointer (some ⟨9, 103, none⟩)])]) ∈ laidTab)).2 0 _ rfl
    rw [h1, h2]
  have hlt : 0 < w.heap.size := hl.lt ⟨(0, [fun v => v = Value.iface 210 (.agg #[.pointer (some ⟨9, 103, none⟩)])]), by simp [laidTab], rfl⟩
  have hgA : (w.alloc (.cells #[.int .i64 0] 133)).cell? ⟨0, 0, none⟩ = some (.iface 210 (.agg #[.pointer (some ⟨9, 103, none⟩)])) := by
    rw [World.cell?_alloc_lt _ _ ⟨0, 0, none⟩ hlt]; exact hg0
  have htA : (w.alloc (.cells #[.int .i64 0] 133)).cell? ⟨w.heap.size, 0, none⟩ = some (.int .i64 0) := by simp
  have hfA : (w.alloc (.cells #[.int .i64 0] 133)).frozen? ⟨w.heap.size, 0, none⟩ = false := by simp
  have e100 : ∀ args w, (callFunc 100 args).run Tryz.prog w = .ok (.enter 100 args) w := enters_of Tryz.func100 (by kernel_rfl) rfl
  have t133 := Tryz.underlying133; have a133 := Tryz.isAgg133; have z133 := Tryz.sizeOf133; have v133 := Tryz.zeroValue133; have u133 := run_underlying Tryz.underlying133
  have t135 := Tryz.underlying135; have u135 := run_underlying Tryz.underlying135
  have t39 := Tryz.underlying39; have a39 := Tryz.isAgg39; have z39 := Tryz.sizeOf39
  go_enter Tryz.func64, Tryz.ntmps64
  go_wp2_with (go_at_call 100; refine (as_hit c _ (.int .i64 0) _ hgA htA hfA).mono ?_; rintro e w' ⟨rfl, rfl⟩)
  go_ret
  refine ⟨rfl, ?_⟩
  refine Below.alloc ?_ (by simp <;> omega) _
  refine Below.alloc ?_ (by simp <;> omega) _
  refine Below.alloc ?_ (by simp <;> omega) _
  refine Below.alloc ?_ (by simp <;> omega) _
  exact (Below.refl w.heap.size w).alloc (Nat.le_refl _) _
theorem f64 (c : Int) : ACallsF Tryz.prog 64 [errD c] (.one (.dv (i64 c))) := by
  refine ⟨en64, fun w vs hl ha => ?_⟩
  obtain ⟨hs, hv⟩ := ha
  have h0 := hv 0 _ rfl
  obtain ⟨v, rfl⟩ : ∃ v, vs = #[v] := by
    cases vs with
    | mk l =>
      simp at hs
      match l, hs with
      | [v], _ => exact ⟨v, rfl⟩
  simp only [Array.getD_eq_getD_getElem?] at h0
  have h0' : RepD w (fun _ => False) (errD c) v := h0
  clear h0
  unfold errD at h0'
  by_cases hc : c = 0
  · subst hc
    rw [if_pos rfl] at h0'
    cases h0'
    exact (reason_nil w).mono fun e w' ⟨he, hb⟩ => ⟨_, he, hb, res_dv (.int _ _)⟩
  · rw [if_neg hc] at h0'
    cases h0' with
    | iface t d v' h1 =>
      cases h1 with
      | agg cs a hsz hh =>
        have h2 := hh 0 _ rfl
        obtain ⟨u, rfl⟩ : ∃ u, a = #[u] := by
          cases a with
          | mk l =>
            simp at hsz
            match l, hsz with
            | [u], _ => exact ⟨u, rfl⟩
        have h3 : u = .int .i64 c := rep_int (by simpa using h2)
        subst h3
        exact (reason_hit c w hl).mono fun e w' ⟨he, hb⟩ => ⟨_, he, hb, res_dv (.int _ _)⟩
end Go.Ab.Tryz
set_option linter.all false
namespace Go.Ab
open Go.RowKit Go.Conc.Locks
def unlockD (f : FuncId) (ad : Addr) : Deferred := { target := .fn (.func f) #[], args := #[.pointer (some ad)] }
def FinD (P : Program) (fU : FuncId) (fn : Func) (Y : Yld) (w0 : World) (X0 Wr : Nat → Prop) (loc : Nat → Option (Nat × Nat)) (a : Act) (w : World) : Prop :=
  ∃ (ad : Addr) (us : List Value) (μ' : Nat → Option (Nat × Nat)), a.defers = [unlockD fU ad] ∧ w.cell? ad = some (.int .i32 1) ∧ w.frozen? ad = false ∧
    (results fn a.tmps).run P (w.setCell ad (.int .i32 0)) = .ok (valOf us) (w.setCell ad (.int .i32 0)) ∧ BelowW Wr w0 (w.setCell ad (.int .i32 0)) ∧
    MemU (w.setCell ad (.int .i32 0)) (fun b => Own Y.mem μ' b ∨ X0 b) (fun b => w0.heap.size ≤ b ∨ Wr b) loc Y.mem μ' ∧ SVReps (w.setCell ad (.int .i32 0)) Y.mem μ' (fun b => Own Y.mem μ' b ∨ X0 b) Y.res us
theorem callsD_mono {P : Program} {f : FuncId} {args : Array Value} {u : FrameMode} {w : World} {R R' : Ending → FrameMode → World → Prop} (h : CallsD P f args u w R) (hr : ∀ e u' w', R e u' w' → R' e u' w') : CallsD P f args u w R' := by
  intro c cs hu
  obtain ⟨e, u', w', fr, h1, h2⟩ := h c cs hu
  exact ⟨e, u', w', fr, hr _ _ _ h1, h2⟩
theorem endG_out {cx : Cx} {S : St} {a : Act} {w : World} {fn : Func} {Y : Yld} {e : Exit} (hgood : cx.Good) (hs : Sim cx S a w) (hE : EndG cx.P fn.results.toList Y e S) :
    ∃ (us : List Value) (μ' : Nat → Option (Nat × Nat)), (results fn a.tmps).run cx.P w = .ok (valOf us) w ∧ BelowW cx.Wr cx.w0 w ∧
      MemU w (fun b => Own Y.mem μ' b ∨ cx.X0 b) (fun b => cx.w0.heap.size ≤ b ∨ cx.Wr b) cx.loc Y.mem μ' ∧ SVReps w Y.mem μ' (fun b => Own Y.mem μ' b ∨ cx.X0 b) Y.res us := by
  obtain ⟨he, ss, e1, τ, e2, e3, e4⟩ := hE
  obtain ⟨μ1, h1⟩ := hs
  obtain ⟨us, r1, r2⟩ := results_val (fn := fn) h1 e1
  have h2 := relab_sim (S' := ⟨fun _ => .dead, Y.mem⟩) hgood h1 (τ := τ) (fun i => by simp only [svLe]) e3 e4
  have hX2 : ∀ b, XX cx Y.mem (relμ τ μ1) b → XX cx S.M μ1 b := by
    rintro b (⟨t', g', b', cap, f1, f2, f3⟩ | hx)
    · have hb := e3 t' g' b' f1
      unfold blkLe at hb
      unfold relμ at f3
      cases hτ : τ t' with
      | none => rw [hτ] at f3; cases f3
      | some t =>
        rw [hτ] at hb f3
        obtain ⟨blk, q1, q2, q3, q4, q5⟩ := hb
        exact .inl ⟨t, (S.M t).1, blk, cap, by rw [← q1], by rw [← q4]; exact f2, f3⟩
    · exact .inr hx
  have r3 := svLes_rep hgood h1 (M' := Y.mem) (blkLe_get e3) (X' := XX cx Y.mem (relμ τ μ1)) hX2 _ _ _ e2 r2
  exact ⟨us, relμ τ μ1, r1, h1.below, ⟨h2.blk, h2.place, h2.uniq, h2.anc⟩, r3⟩
theorem callsGD_of {P : Program} {L : MuLink} (H : MuLib P L) (hU : EnterP P L.unlock) {f : FuncId} {fn : Func} {c : Code} {args : List SV} {M0 : Nat → Nat × Option Blk} {Y : Yld} (hf : P.funcs[f]? = some fn) (hb : fn.body = some c) (hname : (fn.name == "runtime.NumGoroutine") = false) (hn : args.length ≤ fn.ntmps)
    (h : ∀ cx : Cx, cx.P = P → cx.n = fn.ntmps → cx.Good → cx.rnd = none → cx.dq = [] → (∀ a w, FinD P L.unlock fn Y cx.w0 cx.X0 cx.Wr cx.loc a w → cx.fin a w) → AWp cx c (EndG P fn.results.toList Y) ⟨lk (zipS 0 args), M0⟩) : ACallsG P f args M0 Y := by
  refine ⟨enterP_of hf hb hname, fun w X0 Wr loc μ vs hX hLd hLk hM hV => calls_of_wp_defers hf hb (wpIn_wide (n := 0).1 ?_)⟩
  have hl := hV.length
  let cx : Cx := { P := P, w0 := w, n := fn.ntmps, Wr := Wr, X0 := X0, loc := loc, fin := FinD P L.unlock fn Y w X0 Wr loc }
  have hs : SimU cx ⟨lk (zipS 0 args), M0⟩ { tmps := vs.toArray ++ Array.replicate (fn.ntmps - vs.toArray.size) undef, defers := [] } w μ := by
    refine ⟨hM.blk, fun i => ?_, fun t g blk b cap e hm => ⟨.inr (hM.place t g blk b cap e hm).1, (hM.place t g blk b cap e hm).2⟩, hM.uniq, hM.anc, BelowW.refl _ _, ?_, rfl⟩
    · show SVRep w (M0) μ _ (lk (zipS 0 args) i) _
      rw [zipS_get]
      simp only [Nat.zero_le, if_true, Nat.sub_zero]
      rcases Nat.lt_or_ge i args.length with hi | hi
      · have hi' : i < vs.length := by omega
        rw [List.getElem?_eq_getElem hi]
        have e : (vs.toArray ++ Array.replicate (fn.ntmps - vs.toArray.size) undef).getD i undef = vs[i] := by simp [Array.getElem?_append_left, hi']
        rw [e]
        exact hV.get i args[i] vs[i] (by simp [hi]) (by simp [hi'])
      · rw [List.getElem?_eq_none hi]
        trivial
    · show (vs.toArray ++ Array.replicate (fn.ntmps - vs.toArray.size) undef).size = fn.ntmps
      rw [Array.size_append, Array.size_replicate, List.size_toArray]
      omega
  have hgood : cx.Good := ⟨hX, hLd, hLk⟩
  refine wpIn_mono (h cx rfl rfl hgood rfl rfl (fun _ _ hh => hh) _ w ⟨_, hs⟩) ?_
  rintro e a' w' (⟨S', h1, hE⟩ | ⟨rfl, hF⟩)
  · obtain ⟨us, μ', r1, r2, r3, r4⟩ := endG_out (fn := fn) hgood h1 hE
    have hd : a'.defers = [] := by obtain ⟨μ2, h2⟩ := h1; exact h2.defers
    rcases hE.1 with rfl | rfl <;> (show Leaves P fn a'.tmps _ a'.defers .returning w'; rw [hd]; exact ⟨valOf us, r1, us, μ', rfl, r2, r3, r4⟩)
  · obtain ⟨ad, us, μ', d1, d2, d3, d4, d5, d6, d7⟩ := hF
    show Leaves P fn a'.tmps _ a'.defers .returning w'
    rw [d1]
    refine ⟨by simp, .func L.unlock, #[], L.unlock, #[.pointer (some ad)], rfl, ?_, ?_⟩
    · simp only [unlockD, invoke]
      have := enter_run hU #[.pointer (some ad)] w'
      simpa using this
    · refine callsD_mono (MuLone.unlock_deferred H ad .returning w' d2 d3) ?_
      rintro e u' w'' ⟨rfl, rfl, rfl⟩
      exact ⟨valOf us, d4, us, μ', rfl, d5, d6, d7⟩
section
variable {cx : Cx} {S S1 : St}
theorem chain_wp2 (hg : cx.Good) {ops : Array Oper} {K : St → Prop} {Q : Exit → Act → World → Prop} {n : Nat} {l2 : List Oper} (hK : ∀ S a w, Sim cx S a w → K S → wpListIn cx.fence n cx.P ops Q l2 a w) :
    ∀ (l : List Oper) (S : St) (a : Act) (w : World), Sim cx S a w → Chain cx ops l S K → wpListIn cx.fence n cx.P ops Q (l ++ l2) a w
  | [], S, a, w, h, hc => hK S a w h hc
  | o :: l, S, a, w, h, hc => by
    obtain ⟨S', hs, hc⟩ := hc
    rw [List.cons_append]
    unfold wpListIn
    rcases gstep_cases hg h hs with ⟨h1, h2⟩ | ⟨h1, h2⟩
    · rw [if_pos h1]
      refine Oper.wpIn_mono (fun a' w' h' => ?_) (h2.wpIn h n Q)
      exact chain_wp2 hg hK l S' a' w' h' hc
    · rw [if_neg (by simp [h1])]
      exact ⟨fun _ _ => trivial, chain_wp2 hg hK l S' _ w h2 hc⟩
def EndU (P : Program) (rv : List ResultVar) (Y : Yld) (i off : Nat) : Exit → St → Prop := fun e S =>
  e = .ret ∧ ∃ t g blk, S.M t = (g, some blk) ∧ blk.st = i + 3 ∧ blk.cells[off]? = some (.dv (.int .i32 1)) ∧ EndG P rv Y e ⟨S.F, upd (noViews S.M) t (g, some { blk with cells := putCells blk.cells off [.dv (.int .i32 0)] })⟩
theorem putCells_one {l : List Value} {off : Nat} {v : Value} (h : off < l.length) : (putCells l off [v]).toArray = l.toArray.setIfInBounds off v := by
  apply Array.ext'
  simp only [putCells, List.length_singleton, Array.toList_setIfInBounds]
  rw [List.set_eq_take_append_cons_drop, if_pos h]
  simp
def defO (f : FuncId) (x : Operand) (ts : Array TypeId) (ty : TypeId) (p : String) (af : Array Edge) : Oper := ⟨none, .defer { callee := .value (.func f), args := #[x], argTypes := ts }, ty, p, af, none⟩
theorem awp_defer (hg : cx.Good) {P : Program} {fn : Func} {L : MuLink} {Y : Yld} (hP : cx.P = P) (hrn : cx.rnd = none) (hdq : cx.dq = []) (hfin : ∀ a w, FinD P L.unlock fn Y cx.w0 cx.X0 cx.Wr cx.loc a w → cx.fin a w)
    {id : Nat} {lo : List Oper} {x : Operand} {ts : Array TypeId} {ty : TypeId} {p : String} {af : Array Edge} {rest : Code} {K : Exit → St → Prop} {t g off : Nat} {blk : Blk}
    (hch : Chain cx (lo ++ [defO L.unlock x ts ty p af]).toArray lo S fun S' => S' = S1)
    (hx : S1.ev x = .pt t g off) (hM : S1.M t = (g, some blk)) (h3 : 3 ≤ blk.st)
    (hk : ∀ cx' : Cx, cx'.P = P → cx'.n = cx.n → cx'.Good → AWp cx' rest (EndU P fn.results.toList Y (blk.st - 3) off) S1) :
    AWp cx (.seq (.region id (lo ++ [defO L.unlock x ts ty p af]).toArray false) rest) K S := by
  subst hP
  intro a w hs
  have hfen : cx.fence = Fence.wide := by unfold Cx.fence; rw [hrn]; rfl
  refine wpIn_seq ?_
  refine wpIn_region_list ?_
  refine chain_wp2 hg (l2 := [defO L.unlock x ts ty p af]) (fun S' a' w' hS' hE => ?_) lo S a w hs hch
  subst hE
  obtain ⟨μ, h⟩ := hS'
  have hv := h.ev x
  rw [hx] at hv
  simp only [SVRep] at hv
  obtain ⟨b, cap, hm, hv⟩ := hv.2 blk hM
  have hloc : cx.loc (blk.st - 3) = some (b, cap) := by rw [← h.anc t g blk hM h3]; exact hm
  unfold wpListIn
  rw [if_pos (by simp [Region.wanted, defO])]
  have hrun : ((defO L.unlock x ts ty p af).semAt cx.fence.round a'.eval).run cx.P w' = .ok (.defer (unlockD L.unlock ⟨b, off, none⟩)) w' := by
    rw [hfen]
    show ((defO L.unlock x ts ty p af).semAt none a'.eval).run cx.P w' = _
    rw [Oper.semAt_none]
    unfold execOp defO
    simp only [resolve]
    have hev : a'.eval (.func L.unlock) = .func (.func L.unlock) #[] #[] := rfl
    rw [hev]
    simp [Deferred.ofValue, unlockD, hv]
  refine ⟨fun _ _ => by rw [hfen]; trivial, ?_⟩
  rw [hrun, Oper.uponIn_defer]
  let cx' : Cx := { cx with dq := [unlockD L.unlock ⟨b, off, none⟩] }
  have hg' : cx'.Good := hg
  have hs' : Sim cx' S' (({ a' with defers := unlockD L.unlock ⟨b, off, none⟩ :: a'.defers } : Act).put none undef) w' := by
    refine ⟨μ, h.blk, h.slot, h.place, h.uniq, h.anc, h.below, h.size, ?_⟩
    show unlockD L.unlock ⟨b, off, none⟩ :: a'.defers = [unlockD L.unlock ⟨b, off, none⟩]
    rw [h.defers, hdq]
  have hrest := hk cx' rfl rfl hg' _ w' hs'
  unfold wpListIn
  refine wpIn_mono hrest ?_
  rintro e a2 w2 (⟨S2, hS2, rfl, t2, g2, blk2, k1, k2, k3, k4⟩ | ⟨rfl, hF⟩)
  rotate_left
  · exact .inr ⟨rfl, hF⟩
  refine .inr ⟨rfl, hfin _ _ ?_⟩
  obtain ⟨μ2, h2⟩ := hS2
  have hst2 : 3 ≤ blk2.st := by omega
  have hm2 : μ2 t2 = some (b, cap) := by
    rw [h2.anc t2 g2 blk2 k1 hst2, k2, Nat.add_sub_cancel]
    exact hloc
  have hb2 := h2.blk t2 g2 blk2 k1
  unfold BlkRep at hb2
  rw [hm2] at hb2
  obtain ⟨cur, q1, q2, q3, q4, q5⟩ := hb2
  have hoff : off < blk2.cells.length := (List.getElem?_eq_some_iff.1 k3).1
  have hoff2 : off < cur.size := by omega
  have hcur : cur[off]? = some cur[off] := by simp [hoff2]
  have hval := q3 off _ _ k3 hcur
  simp only [SVRep] at hval
  have hcv : cur[off]? = some (.int .i32 1) := by
    rw [hcur]
    generalize cur[off] = u at hval
    cases hval
    rfl
  have hwr := h2.write k1 (.inr hst2) hm2 q1 off [.dv (.int .i32 0)] [.int .i32 0] rfl (fun j c u hj hu => by
    match j, hj, hu with
    | 0, hj, hu =>
      simp only [List.getElem?_cons_zero, Option.some.injEq] at hj hu
      subst hj; subst hu
      simp only [SVRep]
      exact .int _ _) (by simp; omega)
  rw [putCells_one (l := cur.toList) (by simpa using hoff2), ← setCell_eq_setRow w2 b off cur blk2.elem (0, 0) (.int .i32 0) q1] at hwr
  obtain ⟨us, μ', r1, r2, r3, r4⟩ := endG_out (fn := fn) hg' ⟨_, hwr⟩ k4
  refine ⟨⟨b, off, none⟩, us, μ', h2.defers, ?_, frozen_of_row w2 b off cur blk2.elem q1, r1, r2, r3, r4⟩
  simp [World.cell?, q1, hcv]
end
end Go.Ab
set_option linter.all false
namespace Go.Ab
open Go.RowKit
section
variable {cx : Cx} {P : Program} {N : Nat} {ops : Array Oper} {rest : List Oper} {l : List (Nat × SV)} {m : List (Nat × Nat × Option Blk)} {K : St → Prop} {d t ty t2 : Nat} {p : String} {af : Array Edge} {x : Operand}
theorem q_ifc {e : DV} (hu : ∃ u, P.underlying t = some u ∧ ∀ ms, u ≠ .interface ms) (kk : Chain cx ops rest ⟨lk ((d, .dv (.iface t e)) :: l), mkM m⟩ K) (hx : St.ev ⟨lk l, mkM m⟩ x = .dv e := by (simp only [St.look, St.ev, lk, mkM, blkOf, svOf, svOfCell, reduceIte, Nat.reduceAdd, Nat.reduceEqDiff, Nat.reduceMul] <;> rfl))
    (hP : cx.P = P := by assumption) (hn : cx.n = N := by assumption) (hd : d < N := by decide) : Chain cx ops (⟨some d, .makeInterface t x, ty, p, af, none⟩ :: rest) ⟨lk l, mkM m⟩ K := by
  subst hP; subst hn
  refine ⟨⟨lk ((d, .dv (.iface t e)) :: l), mkM m⟩, ?_, kk⟩
  show Step cx ⟨lk l, mkM m⟩ _ _
  refine .sem fun hg a w ⟨μ, h⟩ => Runs.does ?_
  have hv := h.ev x
  rw [hx] at hv
  simp only [SVRep] at hv
  obtain ⟨u, hu1, hu2⟩ := hu
  have ha : (⟨lk l, mkM m⟩ : St).apply cx.n (some d) (.val (.dv (.iface t e))) = some ⟨lk ((d, .dv (.iface t e)) :: l), mkM m⟩ := by
    have := apply_eff (eff_val (r := .dv (.iface t e)) hd ⟨lk l, mkM m⟩)
    rw [this, app_val]
  refine runs_val h (v := .iface t (a.eval x)) ?_ (by simp only [SVRep]; exact RepD.iface _ _ _ hv) ha
  have hun : (underlying t).run cx.P w = .ok u w := run_underlying hu1 w
  unfold execOp
  simp only [Sem.run_bind]
  have : (Instr.makeInterface t (a.eval x)).run cx.P w = .ok (.iface t (a.eval x)) w := by
    unfold Instr.makeInterface
    simp only [Sem.run_bind, hun]
    cases u <;> first | rfl | exact absurd rfl (hu2 _)
  simp only [this]
  rfl
def ifcNil : DV → Option Bool
  | .nilIface => some true
  | .iface _ _ => some false
  | _ => none
theorem q_ine {e : DV} {c : Bool} (hu : P.underlying t = some (.interface (P.methodsAt t))) (hc : ifcNil e = some c) (kk : Chain cx ops rest ⟨lk ((d, .dv (.bool !c)) :: l), mkM m⟩ K) (hx : St.ev ⟨lk l, mkM m⟩ x = .dv e := by (simp only [St.look, St.ev, lk, mkM, blkOf, svOf, svOfCell, reduceIte, Nat.reduceAdd, Nat.reduceEqDiff, Nat.reduceMul] <;> rfl))
    (hP : cx.P = P := by assumption) (hn : cx.n = N := by assumption) (hd : d < N := by decide) : Chain cx ops (⟨some d, .binOp .neq t x (.const .nilIface) t2, ty, p, af, none⟩ :: rest) ⟨lk l, mkM m⟩ K := by
  subst hP; subst hn
  refine ⟨⟨lk ((d, .dv (.bool !c)) :: l), mkM m⟩, ?_, kk⟩
  show Step cx ⟨lk l, mkM m⟩ _ _
  refine .sem fun hg a w ⟨μ, h⟩ => Runs.does ?_
  have hv := h.ev x
  rw [hx] at hv
  simp only [SVRep] at hv
  have ha : (⟨lk l, mkM m⟩ : St).apply cx.n (some d) (.val (.dv (.bool !c))) = some ⟨lk ((d, .dv (.bool !c)) :: l), mkM m⟩ := by
    have := apply_eff (eff_val (r := .dv (.bool !c)) hd ⟨lk l, mkM m⟩)
    rw [this, app_val]
  refine runs_val h (v := .bool !c) ?_ (by simp only [SVRep]; exact RepD.bool _) ha
  unfold execOp
  simp only [Sem.run_bind]
  have key : (do eqGuard .neq t x (.const .nilIface) (a.eval x) .nilIface; binOp .neq t (a.eval x) .nilIface : Sem Value).run cx.P w = .ok (.bool !c) w := by
    generalize a.eval x = v at hv ⊢
    unfold ifcNil at hc
    split at hc
    · cases hc; cases hv
      have hq : eqGuard .neq t x (.const .nilIface) .nilIface .nilIface = pure () := by cases x <;> rfl
      rw [hq]
      show (binOp .neq t .nilIface .nilIface).run cx.P w = _
      exact run_neq_nil_nil w t hu
    · cases hc
      cases hv with
      | iface _ _ v' _ =>
        show (binOp .neq t (.iface _ v') .nilIface).run cx.P w = _
        exact run_neq_held_nil w t _ v' hu
    · cases hc
  simp only [Sem.run_bind] at key
  have e2 : a.eval (.const .nilIface) = .nilIface := rfl
  rw [e2]
  rw [key]
  rfl
end
end Go.Ab
