/- Ab57. -/
import Derived.Test.YtjcecljhjailiaaGreatDoorBogG25
set_option linter.all false
namespace Go.Ab
open Go.RowKit
def wH:List (Nat × Nat × Option BG) -> List (Nat × Nat × Option BG) -> Prop
 | [],[]=>True
 | (t,g,some b) :: m,(t',g',some b') :: m'=>t'=t /\ g'=g /\ (b'=b \/ (3 <= b.st /\ b'={ b with st:=0 })) /\ wH m m'
 | _,_=>False
theorem JV:∀ {m m':List (Nat × Nat × Option BG)},wH m m' -> ∀ t g b',AA m' t=(g,some b') -> ∃ b,AA m t=(g,some b) /\ (b'=b \/ (3 <= b.st /\ b'={ b with st:=0 }))
 | [],[],_,t,g,b',h=>by simp [AA] at h
 | (k,g0,some b) :: m,(k',g1,some c) :: m',ho,t,g,b',h=>by
  obtain ⟨rfl,rfl,h1,h2⟩:=ho
  simp only [AA] at h ⊢
  by_cases e:t=k'
  ·rw [if_pos e] at h ⊢
   simp only [Prod.mk.injEq,Option.some.injEq] at h
   obtain ⟨rfl,rfl⟩:=h
   exact ⟨b,rfl,h1⟩
  ·rw [if_neg e] at h ⊢
   exact JV h2 t g b' h
theorem Yo:∀ {m m':List (Nat × Nat × Option BG)},wH m m' -> ∀ t,(AA m' t).1=(AA m t).1
 | [],[],_,t=>rfl
 | (k,g0,some b) :: m,(k',g1,some c) :: m',ho,t=>by
  obtain ⟨rfl,rfl,h1,h2⟩:=ho
  simp only [AA]
  split
  ·rfl
  ·exact Yo h2 t
theorem yZ {cx:Cx} {l:List (Nat × SV)} {m:List (Nat × Nat × Option BG)} (m':List (Nat × Nat × Option BG)) (ho:wH m m'):Le cx ⟨lk l,AA m⟩ ⟨lk l,AA m'⟩:=by
 rintro a w ⟨μ,h⟩
 have ow:∀ {b b':BG},(b'=b \/ (3 <= b.st /\ b'={ b with st:=0 })) -> (Dv b'.st ↔ Dv b.st):=by
  rintro b b' (rfl | ⟨q,rfl⟩)
  ·exact Iff.rfl
  ·exact ⟨fun _=>.inr q,fun _=>.inl rfl⟩
 have hX:∀ b,XX cx (AA m') μ b -> XX cx (AA m) μ b:=by
  rintro b (⟨t,g,blk,cap,q1,q2,q3⟩ | hx)
  ·obtain ⟨b0,k1,k2⟩:=JV ho t g blk q1
   exact .inl ⟨t,g,b0,cap,k1,(ow k2).1 q2,q3⟩
  ·exact .inr hx
 have mono:∀ (c:SV) (v:Value),AO w (AA m) μ (XX cx (AA m) μ) c v -> AO w (AA m') μ (XX cx (AA m') μ) c v :=
  fun c v hc=>AO.mono (Nat.le_refl _) (fun b _ hx=>⟨rfl,fun hh=>hx (hX b hh)⟩) (fun t=>Nat.le_of_eq (Yo ho t).symm) (fun t g Ay e _=>by
   obtain ⟨b0,k1,k2⟩:=JV ho t g Ay e
   exact ⟨b0,k1,rfl,by rcases k2 with rfl | ⟨_,rfl⟩<;>rfl⟩) c v hc
 refine ⟨μ,fun t g blk e=>?_,fun i=>mono _ _ (h.slot i),fun t g blk b cap e hm=>?_,fun t g blk t' g' Ay b cap cap' hne q1 q2 q3 m1 m2=>?_,fun t g blk e h3=>?_,h.below,h.size,h.defers⟩
 ·obtain ⟨b0,k1,k2⟩:=JV ho t g blk e
  have hb:=h.blk t g b0 k1
  have eq:blk.cells=b0.cells /\ blk.CS=b0.CS /\ blk.elem=b0.elem /\ blk.row=b0.row:=by rcases k2 with rfl | ⟨_,rfl⟩<;>exact ⟨rfl,rfl,rfl,rfl⟩
  obtain ⟨q1,q2,q3,q4⟩:=eq
  unfold CP at hb ⊢
  cases hm:μ t with
  | none =>
   simp only [hm] at hb ⊢
   rw [q1,q4];exact hb
  | some p =>
   obtain ⟨b,cap⟩:=p
   simp only [hm] at hb ⊢
   obtain ⟨cur,r1,r2,r3,r4,r5⟩:=hb
   refine ⟨cur,by rw [q3];exact r1,by rw [q1];exact r2,fun j c u hj hu=>?_,by rw [q4,q2];exact r4,by rw [q4,q1];exact r5⟩
   rw [q1] at hj
   exact mono c u (r3 j c u hj hu)
 ·obtain ⟨b0,k1,_⟩:=JV ho t g blk e
  exact h.place t g b0 b cap k1 hm
 ·obtain ⟨b0,k1,k2⟩:=JV ho t g blk q1
  obtain ⟨b1,k3,k4⟩:=JV ho t' g' Ay q2
  obtain ⟨r1,r2⟩:=h.uniq t g b0 t' g' b1 b cap cap' hne k1 k3 ((ow k2).1 q3) m1 m2
  have c1:blk.cells=b0.cells:=by rcases k2 with rfl | ⟨_,rfl⟩<;>rfl
  rcases k4 with rfl | ⟨k5,_⟩
  ·rw [c1];exact ⟨r1,r2⟩
  ·omega
 ·obtain ⟨b0,k1,k2⟩:=JV ho t g blk e
  rcases k2 with rfl | ⟨_,rfl⟩
  ·exact h.FQ t g blk k1 h3
  ·simp at h3
end Go.Ab
