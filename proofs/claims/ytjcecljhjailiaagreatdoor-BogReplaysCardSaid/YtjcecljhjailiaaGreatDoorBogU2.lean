/- The functions of the bog laws: cuttings, part 76. The walks are written by wip/gen/gw.py. -/
import Derived.Test.YtjcecljhjailiaaGreatDoorBogU1
import Derived.Test.YtjcecljhjailiaaGreatDoorBogU0
import Derived.Test.YtjcecljhjailiaaGreatDoorBogS5
import Derived.Test.YtjcecljhjailiaaGreatDoorBogG07
set_option linter.all false
namespace Go.Ab.Tryz
open Go Go.Ab Go.Proofs Go.Ab.Ci Go.Ab.Gx
open Go.Ab.Heap (Az Ah BZ)
open Go.Ab.Heap (Hp Et validate sm)
noncomputable def cE (f:Fm) (L:List Tx):Cs:=Fb f.bog f.heaps f.need (cs0 f.bog.worth.length) (L.take 30)
theorem qP (f:Fm) (hE:newE f.bog f.heaps f.need=0) (L:List Tx):C8 f.bog f.heaps f.need (cE f L):=Pn (Ga hE) _ (M7 (Ga hE))
theorem A0G (f:Fm) (L:List Tx):aD f.bog f.heaps f.need (cE f L):=wS.run _
set_option maxHeartbeats 2000000 in
theorem zZ (f:Fm) (hf:Er f) (L:List Tx) (hk:L.length <= 9223372036854775807) (T:Tx) (hE:newE f.bog f.heaps f.need ≠ 0):AR Tryz.prog 9 [LK f,Gi L,CY T] (.one (.dv (.bool true))):=by
 refine Bu Tryz.func9 rfl rfl (by rw [Tryz.ntmps9];simp) fun cx hP hn hg=>?_
 rw [Tryz.ntmps9] at hn
 rw [Bq,Bp]
 simp only [List.nil_append,List.append_nil,List.cons_append,BF,Nat.reduceAdd]
 refine sg ?_
 refine qp BX ?_
 refine qv A9 ?_
 refine AJ ?_
 refine sg ?_
 refine qv (AQ EN Eh) ?_
 refine Bo (f18 f hf.1 hf.2) ?_
 refine qx A8 (fun Ke=>?_) (fun Ke=>?_)
 ·try simp at Ke
  iterate 2 refine qk ?_
  refine qv Ai ?_
  refine qv A8 ?_
  iterate 3 refine qk ?_
  refine qv Ai ?_
  refine Dw (hb:=by first | rfl | simp | simp_all) (ht:=?_)
  refine sg ?_
  refine Bo (f20) ?_
  refine qv A9 ?_
  refine AP ?_
  exact x1 (hr:=(DX))
 ·try simp at Ke
  refine qv A8 ?_
  refine Bo (f19 L hk) ?_
  refine qv Ai ?_
  refine qx A8 (fun Kc=>?_) (fun Kc=>?_)
  ·try simp at Kc
   iterate 3 refine qk ?_
   refine qv Ai ?_
   refine Dw (hb:=by first | rfl | simp | simp_all) (ht:=?_)
   refine sg ?_
   refine Bo (f20) ?_
   refine qv A9 ?_
   refine AP ?_
   exact x1 (hr:=(DX))
  ·try simp at Kc
   refine qv A8 ?_
   refine qv (Dr IC) ?_
   refine qv Dj ?_
   refine qv Ai ?_
   refine cd (fun hc0=>?_) (fun hc0=>?_)
   ·skip
    refine sg ?_
    refine Bo (f20) ?_
    refine qv A9 ?_
    refine AP ?_
    exact x1 (hr:=(DX))
   ·skip
    obtain ⟨hF,NY,NW⟩:=E9 Kc
    have hTl:T.length <= 400:=by first | omega | (simp at hc0;omega)
    have Oh:(L.take 30).length <= 30:=by simp;omega
    have htx:∀ i (hi:i < (L.take 30).length),(L.take 30)[i].length < 2000000:=fun i hi=>by rw [List.getElem_take];exact hF.2 i (by simp at hi;omega)
    refine AY ?_
    refine sg ?_
    refine qv (AQ EN Eh) ?_
    refine Dx (Kn f hE) [] [] [] ?_
    refine qv A8 ?_
    iterate 3 refine qv Bf ?_
    iterate 3 refine qv A9 ?_
    refine AJ ?_
    refine sg ?_
    refine qv A8 ?_
    refine qv Bn ?_
    refine Dw (hb:=(by rfl)) (ht:=?_)
    refine sg ?_
    refine qv (AQ EN Eh) ?_
    refine Bo (f22 f hE) ?_
    refine qv A9 ?_
    refine AP ?_
    exact x1 (hr:=(DX))
set_option maxHeartbeats 4000000 in
set_option maxRecDepth 100000 in
theorem A3H (f:Fm) (hf:Er f) (L:List Tx) (hk:L.length <= 9223372036854775807) (T:Tx) (hE:newE f.bog f.heaps f.need=0) (he:Kq f.bog (cE f L) T ≠ 0):AR Tryz.prog 9 [LK f,Gi L,CY T] (.one (.dv (.bool true))):=by
 have F:=Ga hE
 refine Bu Tryz.func9 rfl rfl (by rw [Tryz.ntmps9];simp) fun cx hP hn hg=>?_
 rw [Tryz.ntmps9] at hn
 rw [Bq,Bp]
 simp only [List.nil_append,List.append_nil,List.cons_append,BF,Nat.reduceAdd]
 refine sg ?_
 refine qp BX ?_
 refine qv A9 ?_
 refine AJ ?_
 refine sg ?_
 refine qv (AQ EN Eh) ?_
 refine Bo (f18 f hf.1 hf.2) ?_
 refine qx A8 (fun Ke=>?_) (fun Ke=>?_)
 ·try simp at Ke
  iterate 2 refine qk ?_
  refine qv Ai ?_
  refine qv A8 ?_
  iterate 3 refine qk ?_
  refine qv Ai ?_
  refine Dw (hb:=by first | rfl | simp | simp_all) (ht:=?_)
  refine sg ?_
  refine Bo (f20) ?_
  refine qv A9 ?_
  refine AP ?_
  exact x1 (hr:=(DX))
 ·try simp at Ke
  refine qv A8 ?_
  refine Bo (f19 L hk) ?_
  refine qv Ai ?_
  refine qx A8 (fun Kc=>?_) (fun Kc=>?_)
  ·try simp at Kc
   iterate 3 refine qk ?_
   refine qv Ai ?_
   refine Dw (hb:=by first | rfl | simp | simp_all) (ht:=?_)
   refine sg ?_
   refine Bo (f20) ?_
   refine qv A9 ?_
   refine AP ?_
   exact x1 (hr:=(DX))
  ·try simp at Kc
   refine qv A8 ?_
   refine qv (Dr IC) ?_
   refine qv Dj ?_
   refine qv Ai ?_
   refine cd (fun hc0=>?_) (fun hc0=>?_)
   ·skip
    refine sg ?_
    refine Bo (f20) ?_
    refine qv A9 ?_
    refine AP ?_
    exact x1 (hr:=(DX))
   ·skip
    obtain ⟨hF,NY,NW⟩:=E9 Kc
    have hTl:T.length <= 400:=by first | omega | (simp at hc0;omega)
    have Oh:(L.take 30).length <= 30:=by simp;omega
    have htx:∀ i (hi:i < (L.take 30).length),(L.take 30)[i].length < 2000000:=fun i hi=>by rw [List.getElem_take];exact hF.2 i (by simp at hi;omega)
    have nG:=qP f hE L
    have hdo:=f24 f.bog f.heaps f.need (cE f L) F nG T (by omega)
    have h43:=f43 f.bog f.heaps f.need (cs0 f.bog.worth.length) F (M7 F) (L.take 30) (by omega) htx
    rw [show Fb f.bog f.heaps f.need (cs0 f.bog.worth.length) (L.take 30)=cE f L from rfl] at h43
    rw [Tv he] at hdo
    refine AY ?_
    refine sg ?_
    refine qv (AQ EN Eh) ?_
    refine Dx (Km f hE) [] [] [100000,100001,100002,100003,100004,100005] ?_
    refine qv A8 ?_
    iterate 3 refine qv Bf ?_
    iterate 3 refine qv A9 ?_
    refine AJ ?_
    refine sg ?_
    refine qv A8 ?_
    refine qv Bn ?_
    refine Cv (hb:=(by rfl)) (ht:=?_)
    refine AY ?_
    refine AJ ?_
    refine sg ?_
    iterate 3 refine qv A8 ?_
    refine sQ (f23 L (by omega)) ?_
    refine Dx (h43) [] [(100000,100000),(100001,100001),(100002,100002),(100003,100003),(100004,100004),(100005,100005)] [100000,100001,100002,100003,100004,100005] ?_
    refine qv Bn ?_
    refine Cv (hb:=(by rfl)) (ht:=?_)
    refine AY ?_
    refine AJ ?_
    refine sg ?_
    iterate 2 refine qv A8 ?_
    refine Dx (hdo) [] [(100000,100000),(100001,100001)] [100000,100001] ?_
    refine qv BP ?_
    refine Dw (hb:=(by simp [he])) (ht:=?_)
    refine sg ?_
    iterate 2 refine qv A8 ?_
    refine Dx (f31 f.bog f.heaps f.need (cE f L) F nG) [] [(100000,100000),(100001,100001),(100002,100002),(100003,100003),(100004,100004),(100005,100005)] [100000,100001,100002,100003,100004,100005] ?_
    refine qx A8 (fun V4=>?_) (fun V4=>?_)
    rotate_left
    ·exact absurd V4 ((by simp))
    refine Bo (f20) ?_
    refine qv Ai ?_
    refine qv A9 ?_
    refine AP ?_
    exact x1 (hr:=(DX))
set_option maxHeartbeats 4000000 in
set_option maxRecDepth 100000 in
theorem zY (f:Fm) (hf:Er f) (L:List Tx) (hk:L.length <= 9223372036854775807) (T:Tx) (hE:newE f.bog f.heaps f.need=0) (he:Kq f.bog (cE f L) T=0):AR Tryz.prog 9 [LK f,Gi L,CY T] (.one (.dv (.bool true))):=by
 have F:=Ga hE
 refine Bu Tryz.func9 rfl rfl (by rw [Tryz.ntmps9];simp) fun cx hP hn hg=>?_
 rw [Tryz.ntmps9] at hn
 rw [Bq,Bp]
 simp only [List.nil_append,List.append_nil,List.cons_append,BF,Nat.reduceAdd]
 refine sg ?_
 refine qp BX ?_
 refine qv A9 ?_
 refine AJ ?_
 refine sg ?_
 refine qv (AQ EN Eh) ?_
 refine Bo (f18 f hf.1 hf.2) ?_
 refine qx A8 (fun Ke=>?_) (fun Ke=>?_)
 ·try simp at Ke
  iterate 2 refine qk ?_
  refine qv Ai ?_
  refine qv A8 ?_
  iterate 3 refine qk ?_
  refine qv Ai ?_
  refine Dw (hb:=by first | rfl | simp | simp_all) (ht:=?_)
  refine sg ?_
  refine Bo (f20) ?_
  refine qv A9 ?_
  refine AP ?_
  exact x1 (hr:=(DX))
 ·try simp at Ke
  refine qv A8 ?_
  refine Bo (f19 L hk) ?_
  refine qv Ai ?_
  refine qx A8 (fun Kc=>?_) (fun Kc=>?_)
  ·try simp at Kc
   iterate 3 refine qk ?_
   refine qv Ai ?_
   refine Dw (hb:=by first | rfl | simp | simp_all) (ht:=?_)
   refine sg ?_
   refine Bo (f20) ?_
   refine qv A9 ?_
   refine AP ?_
   exact x1 (hr:=(DX))
  ·try simp at Kc
   refine qv A8 ?_
   refine qv (Dr IC) ?_
   refine qv Dj ?_
   refine qv Ai ?_
   refine cd (fun hc0=>?_) (fun hc0=>?_)
   ·skip
    refine sg ?_
    refine Bo (f20) ?_
    refine qv A9 ?_
    refine AP ?_
    exact x1 (hr:=(DX))
   ·skip
    obtain ⟨hF,NY,NW⟩:=E9 Kc
    have hTl:T.length <= 400:=by first | omega | (simp at hc0;omega)
    have Oh:(L.take 30).length <= 30:=by simp;omega
    have htx:∀ i (hi:i < (L.take 30).length),(L.take 30)[i].length < 2000000:=fun i hi=>by rw [List.getElem_take];exact hF.2 i (by simp at hi;omega)
    have nG:=qP f hE L
    have hdo:=f24 f.bog f.heaps f.need (cE f L) F nG T (by omega)
    have h43:=f43 f.bog f.heaps f.need (cs0 f.bog.worth.length) F (M7 F) (L.take 30) (by omega) htx
    rw [show Fb f.bog f.heaps f.need (cs0 f.bog.worth.length) (L.take 30)=cE f L from rfl] at h43
    have okD:=Tt F nG T
    have hoD:(Mx f.bog f.heaps f.need (cE f L) T).orders=(cE f L).orders ++ [T]:=by rw [QI,if_pos he]
    have hb:=zm okD
    have hol:=nG.ord
    rw [he] at hdo
    refine AY ?_
    refine sg ?_
    refine qv (AQ EN Eh) ?_
    refine Dx (Km f hE) [] [] [100000,100001,100002,100003,100004,100005] ?_
    refine qv A8 ?_
    iterate 3 refine qv Bf ?_
    iterate 3 refine qv A9 ?_
    refine AJ ?_
    refine sg ?_
    refine qv A8 ?_
    refine qv Bn ?_
    refine Cv (hb:=(by rfl)) (ht:=?_)
    refine AY ?_
    refine AJ ?_
    refine sg ?_
    iterate 3 refine qv A8 ?_
    refine sQ (f23 L (by omega)) ?_
    refine Dx (h43) [] [(100000,100000),(100001,100001),(100002,100002),(100003,100003),(100004,100004),(100005,100005)] [100000,100001,100002,100003,100004,100005] ?_
    refine qv Bn ?_
    refine Cv (hb:=(by rfl)) (ht:=?_)
    refine AY ?_
    refine AJ ?_
    refine sg ?_
    iterate 2 refine qv A8 ?_
    refine Dx (hdo) [] [(100000,100000),(100001,100001)] [100000,100001] ?_
    refine qv BP ?_
    refine Cv (hb:=(by rfl)) (ht:=?_)
    refine AY ?_
    refine sg ?_
    refine qv A8 ?_
    refine Dx (f34 f.bog f.heaps f.need (Mx f.bog f.heaps f.need (cE f L) T) F okD) [] [(100000,100000),(100001,100001)] [100000,100001] ?_
    refine Bo (hb) ?_ (hS:=(KR (by (simp only [AA,reduceIte,Nat.reduceEqDiff]<;>rfl))))
    refine qv A8 ?_
    iterate 2 refine qv Bf ?_
    iterate 2 refine qv A9 ?_
    refine sg ?_
    refine qv A8 ?_
    refine qv D5 ?_
    refine qx A8 (fun NU=>?_) (fun NU=>?_)
    rotate_left
    ·exact absurd NU ((by simp))
    refine qv A8 ?_
    refine qr (D7 CF KL DZ) ?_
    refine qv A8 ?_
    refine qv BR ?_
    refine qv (AB Cw) ?_
    refine qv (AL Fv Hl) ?_
    refine Qg (DK CF CF KL DZ WQ (hx:=by (simp only [St.look,St.ev,lk,AA,AV,Au,Ar,reduceIte,Nat.reduceAdd,Nat.reduceEqDiff,Nat.reduceMul];exact lM)) (hc:=List.nil_append _)) ?_
    refine qv A8 ?_
    refine qr (D7 CF KL DZ) ?_
    refine Qg (DK CF CF KL DZ WQ (hc:=El)) ?_
    refine Bo (f38 (Mx f.bog f.heaps f.need (cE f L) T).orders ((cE f L).orders ++ [T]) (by rw [hoD];simp;omega)) ?_ (ha:=(CG (Tz (L:=(Mx f.bog f.heaps f.need (cE f L) T).orders) (by simp only [AA,reduceIte,Nat.reduceEqDiff]<;>rfl) trivial rfl (fun _=>trivial)) (CG (Tz (L:=((cE f L).orders ++ [T])) (by simp only [AA,reduceIte,Nat.reduceEqDiff]<;>rfl) trivial (by simp) (fun _=>trivial)) EH)))
    refine qv Ai ?_
    refine qx A8 (fun R3=>?_) (fun R3=>?_)
    rotate_left
    ·exact absurd R3 ((by simp [hoD]))
    refine Bo (f20) ?_
    refine qv Ai ?_
    refine qv A9 ?_
    refine AP ?_
    exact x1 (hr:=(DX))
theorem f9 (f:Fm) (hf:Er f) (L:List Tx) (hk:L.length <= 9223372036854775807) (T:Tx):AR Tryz.prog 9 [LK f,Gi L,CY T] (.one (.dv (.bool true))):=by
 by_cases hE:newE f.bog f.heaps f.need=0
 ·by_cases he:Kq f.bog (cE f L) T=0
  ·exact zY f hf L hk T hE he
  ·exact A3H f hf L hk T hE he
 ·exact zZ f hf L hk T hE
end Go.Ab.Tryz
