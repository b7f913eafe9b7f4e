/- The functions of the bog laws: cuttings, part 77. The walks are written by wip/gen/gw.py. -/
import Derived.Test.YtjcecljhjailiaaGreatDoorBogS8
import Derived.Test.YtjcecljhjailiaaGreatDoorBogT2
import Derived.Test.YtjcecljhjailiaaGreatDoorBogU0
import Derived.Test.YtjcecljhjailiaaGreatDoorBogS5
import Derived.Test.YtjcecljhjailiaaGreatDoorBogG07
set_option linter.all false
namespace Go.Ab.Tryz
open Go Go.Ab Go.Proofs Go.Ab.Ci Go.Ab.Gx
open Go.Ab.Heap (Az Ah BZ)
open Go.Ab.Heap (Hp Et validate sm)
theorem je {m:Nat} {p:∀ j,j < m -> Prop} (h:¬ ∀ j (hj:j < m),p j hj):∃ k,∃ hk:k < m,(∀ j (hj:j < m),j < k -> p j hj) /\ ¬ p k hk:=by
 have main:∀ n,n <= m -> (∀ j (hj:j < m),j < n -> p j hj) \/ ∃ k,∃ hk:k < m,(∀ j (hj:j < m),j < k -> p j hj) /\ ¬ p k hk:=by
  intro n
  induction n with
  | zero=>intro _;exact .inl fun j hj h0=>by omega
  | succ n ih =>
   intro hn
   rcases ih (by omega) with h1 | h1
   ·by_cases hp:p n (by omega)
    ·refine .inl fun j hj hjn=>?_
     by_cases e:j=n
     ·subst e;exact hp
     ·exact h1 j hj (by omega)
    ·exact .inr ⟨n,by omega,h1,hp⟩
   ·exact .inr h1
 rcases main m (Nat.le_refl _) with h1 | h1
 ·exact absurd (fun j hj=>h1 j hj hj) h
 ·exact h1
set_option maxHeartbeats 4000000 in
theorem Tg (f:Fm) (hf:Er f) (B:Tx) (k e:Int) (he:e ≠ 0) (h46:B.length <= 20000 -> Aw Tryz.prog 46 [.dv (KJ f.bog),.dv (Et f.heaps),.dv (i64 f.need),.dv (CY B)] (Ba []) ⟨[.dv .DI,.dv (i64 k),.dv (i64 e)],Ba []⟩) (h48:B.length <= 20000 -> Aw Tryz.prog 48 [.dv (KJ f.bog),.dv (Et f.heaps),.dv (i64 f.need),.dv (CY B)] (Ba []) ⟨[.dv .DI,.dv (i64 k),.dv (i64 e)],Ba []⟩):AR Tryz.prog 12 [LK f,CY B] (.one (.dv (.bool true))):=by
 refine Bu Tryz.func12 rfl rfl (by rw [Tryz.ntmps12];simp) fun cx hP hn hg=>?_
 rw [Tryz.ntmps12] at hn
 rw [Bq,Bp]
 simp only [List.nil_append,List.append_nil,List.cons_append,BF,Nat.reduceAdd]
 refine sg ?_
 refine qp BX ?_
 refine qv A9 ?_
 refine AJ ?_
 refine sg ?_
 refine qv (AQ EN Eh) ?_
 refine Bo (f18 f hf.1 hf.2) ?_
 refine qx A8 (fun JA=>?_) (fun JA=>?_)
 ·try simp at JA
  iterate 3 refine qk ?_
  refine qv Ai ?_
  refine Dw (hb:=by first | rfl | simp | simp_all) (ht:=?_)
  refine sg ?_
  refine Bo (f20) ?_
  refine qv A9 ?_
  refine AP ?_
  exact x1 (hr:=(DX))
 ·try simp at JA
  refine qv A8 ?_
  refine qv (Dr IC) ?_
  refine qv Dj ?_
  refine qv Ai ?_
  refine cd (fun hc0=>?_) (fun hc0=>?_)
  ·skip
   refine sg ?_
   refine Bo (f20) ?_
   refine qv A9 ?_
   refine AP ?_
   exact x1 (hr:=(DX))
  ·skip
   have hB:B.length <= 20000:=by first | omega | (simp at hc0;omega)
   refine AY ?_
   refine sg ?_
   refine qv (AB E5) ?_
   refine qv (AQ D9 DW) ?_
   refine qv (AB EJ) ?_
   refine qv (AQ Cq Cr) ?_
   refine qv (AB FK) ?_
   refine qv (AL Ak Br) ?_
   refine qv A8 ?_
   refine Dx (h46 hB) [] [] [] ?_
   refine qv A8 ?_
   iterate 3 refine qv Bf ?_
   iterate 3 refine qv A9 ?_
   refine sg ?_
   refine qv (AB E5) ?_
   refine qv (AQ D9 DW) ?_
   refine qv (AB EJ) ?_
   refine qv (AQ Cq Cr) ?_
   refine qv (AB FK) ?_
   refine qv (AL Ak Br) ?_
   refine qv A8 ?_
   refine Dx (h48 hB) [] [] [] ?_
   refine qv A8 ?_
   iterate 3 refine qv Bf ?_
   iterate 3 refine qv A9 ?_
   refine AJ ?_
   refine sg ?_
   iterate 2 refine qv A8 ?_
   refine qv BP ?_
   refine qx A8 (fun R4=>?_) (fun R4=>?_)
   ·exact absurd R4 ((by simp))
   iterate 2 refine qv A8 ?_
   refine qv BP ?_
   refine qv Ai ?_
   refine Cv (hb:=(by simp)) (ht:=?_)
   refine AY ?_
   refine AJ ?_
   refine sg ?_
   refine qv A8 ?_
   refine qv BP ?_
   refine Dw (hb:=(by simp [he])) (ht:=?_)
   refine sg ?_
   refine qv A8 ?_
   refine qv (P:=Tryz.prog) (by simp only [AZ,EM,Gl,EI,LW,Option.map_some,St.look,St.ev,lk,AA,AV,Au,Ar,reduceIte,Nat.reduceAdd,Nat.reduceEqDiff,Nat.reduceMul,XI,if_true];rfl) ?_
   refine qx A8 (fun XT=>?_) (fun XT=>?_)
   rotate_left
   ·exact absurd XT ((by simp))
   refine Bo (f20) ?_
   refine qv Ai ?_
   refine qv A9 ?_
   refine AP ?_
   exact x1 (hr:=(DX))
set_option maxHeartbeats 4000000 in
set_option maxRecDepth 100000 in
theorem pO (f:Fm) (hf:Er f) (B:Tx) (hE:newE f.bog f.heaps f.need=0) (k:Int) (c:Cs) (ok:C8 f.bog f.heaps f.need c) (h46:B.length <= 20000 -> Aw Tryz.prog 46 [.dv (KJ f.bog),.dv (Et f.heaps),.dv (i64 f.need),.dv (CY B)] (Ba []) ⟨[.pt 100000 0 0,.dv (i64 k),.dv (i64 0)],Ba [(100000,Jg f.bog f.heaps f.need c),(100001,Cy c.orders 0)]⟩) (h48:B.length <= 20000 -> Aw Tryz.prog 48 [.dv (KJ f.bog),.dv (Et f.heaps),.dv (i64 f.need),.dv (CY B)] (Ba []) ⟨[.pt 100000 0 0,.dv (i64 k),.dv (i64 0)],Ba (gU f.bog f.heaps f.need c)⟩):AR Tryz.prog 12 [LK f,CY B] (.one (.dv (.bool true))):=by
 have F:=Ga hE
 refine Bu Tryz.func12 rfl rfl (by rw [Tryz.ntmps12];simp) fun cx hP hn hg=>?_
 rw [Tryz.ntmps12] at hn
 rw [Bq,Bp]
 simp only [List.nil_append,List.append_nil,List.cons_append,BF,Nat.reduceAdd]
 refine sg ?_
 refine qp BX ?_
 refine qv A9 ?_
 refine AJ ?_
 refine sg ?_
 refine qv (AQ EN Eh) ?_
 refine Bo (f18 f hf.1 hf.2) ?_
 refine qx A8 (fun JA=>?_) (fun JA=>?_)
 ·try simp at JA
  iterate 3 refine qk ?_
  refine qv Ai ?_
  refine Dw (hb:=by first | rfl | simp | simp_all) (ht:=?_)
  refine sg ?_
  refine Bo (f20) ?_
  refine qv A9 ?_
  refine AP ?_
  exact x1 (hr:=(DX))
 ·try simp at JA
  refine qv A8 ?_
  refine qv (Dr IC) ?_
  refine qv Dj ?_
  refine qv Ai ?_
  refine cd (fun hc0=>?_) (fun hc0=>?_)
  ·skip
   refine sg ?_
   refine Bo (f20) ?_
   refine qv A9 ?_
   refine AP ?_
   exact x1 (hr:=(DX))
  ·skip
   have hB:B.length <= 20000:=by first | omega | (simp at hc0;omega)
   refine AY ?_
   refine sg ?_
   refine qv (AB E5) ?_
   refine qv (AQ D9 DW) ?_
   refine qv (AB EJ) ?_
   refine qv (AQ Cq Cr) ?_
   refine qv (AB FK) ?_
   refine qv (AL Ak Br) ?_
   refine qv A8 ?_
   refine Dx (h46 hB) [] [] [100000,100001] ?_
   refine qv A8 ?_
   iterate 3 refine qv Bf ?_
   iterate 3 refine qv A9 ?_
   refine sg ?_
   refine qv (AB E5) ?_
   refine qv (AQ D9 DW) ?_
   refine qv (AB EJ) ?_
   refine qv (AQ Cq Cr) ?_
   refine qv (AB FK) ?_
   refine qv (AL Ak Br) ?_
   refine qv A8 ?_
   refine Dx (h48 hB) [] [] [100002,100003,100004,100005] ?_
   refine qv A8 ?_
   iterate 3 refine qv Bf ?_
   iterate 3 refine qv A9 ?_
   refine AJ ?_
   refine sg ?_
   iterate 2 refine qv A8 ?_
   refine qv BP ?_
   refine qx A8 (fun R4=>?_) (fun R4=>?_)
   ·exact absurd R4 ((by simp))
   iterate 2 refine qv A8 ?_
   refine qv BP ?_
   refine qv Ai ?_
   refine Cv (hb:=(by simp)) (ht:=?_)
   refine AY ?_
   refine AJ ?_
   refine sg ?_
   refine qv A8 ?_
   refine qv BP ?_
   refine Cv (hb:=(by rfl)) (ht:=?_)
   refine AY ?_
   refine sg ?_
   refine qv A8 ?_
   refine mP XI ?_
   refine qx A8 (fun oF=>?_) (fun oF=>?_)
   rotate_left
   ·exact absurd oF ((by simp))
   iterate 2 refine qv A8 ?_
   refine Dx (f31 f.bog f.heaps f.need c F ok) [] [(100000,100000),(100001,100001),(100002,100002),(100003,100003),(100004,100004),(100005,100005)] [100000,100001,100002,100003,100004,100005] ?_
   refine qv Ai ?_
   refine qx A8 (fun A2Z=>?_) (fun A2Z=>?_)
   rotate_left
   ·exact absurd A2Z ((by simp))
   refine Bo (f20) ?_
   refine qv Ai ?_
   refine qv A9 ?_
   refine AP ?_
   exact x1 (hr:=(DX))
theorem f12 (f:Fm) (hf:Er f) (B:Tx):AR Tryz.prog 12 [LK f,CY B] (.one (.dv (.bool true))):=by
 by_cases hE:newE f.bog f.heaps f.need=0
 ·by_cases hr:(Aq 100 0 B).2=[]
  ·by_cases ho:∀ j (hj:j < (Aq 100 0 B).1.length),Kq f.bog (cR f.bog f.heaps f.need (Aq 100 0 B).1 j) (Aq 100 0 B).1[j]=0
   ·exact pO f hf B hE _ _ (P7 (Ga hE) _ _) (fun hB=>pI _ _ _ B (by omega) hE hr ho) (fun hB=>pF _ _ _ B (by omega) hE hr ho)
   ·obtain ⟨k,hk,h0,he⟩:∃ k,∃ hk:k < (Aq 100 0 B).1.length,(∀ j (hj:j < (Aq 100 0 B).1.length),j < k -> Kq f.bog (cR f.bog f.heaps f.need (Aq 100 0 B).1 j) (Aq 100 0 B).1[j]=0) /\ Kq f.bog (cR f.bog f.heaps f.need (Aq 100 0 B).1 k) (Aq 100 0 B).1[k] ≠ 0:=je ho
    exact Tg f hf B _ _ he (fun hB=>uj _ _ _ B (by omega) hE hr k hk h0 he) (fun hB=>ug _ _ _ B (by omega) hE hr k hk h0 he)
  ·exact Tg f hf B _ _ (by decide) (fun hB=>pG _ _ _ B (by omega) hE hr) (fun hB=>pE _ _ _ B (by omega) hE hr)
 ·exact Tg f hf B _ _ hE (fun hB=>um _ _ _ B (by omega) hE) (fun hB=>uh _ _ _ B (by omega) hE)
end Go.Ab.Tryz
