/- The functions of the bog laws: cuttings, part 68. The walks are written by wip/gen/gw.py. -/
import Derived.Test.YtjcecljhjailiaaGreatDoorBogS4
import Derived.Test.YtjcecljhjailiaaGreatDoorBogG22
import Derived.Test.YtjcecljhjailiaaGreatDoorBogG22
import Derived.Test.YtjcecljhjailiaaGreatDoorBogG07
set_option linter.all false
namespace Go.Ab.Tryz
open Go Go.Ab Go.Proofs Go.Ab.Ci Go.Ab.Gx
open Go.Ab.Heap (Az Ah BZ)
open Go.Ab.Heap (Hp Et validate sm)
def Er (f:Fm):Prop:=f.bog.worth.length <= 9223372036854775807 /\ f.heaps.links.length <= 9223372036854775807
noncomputable def Ny (f:Fm) (L:List Tx) (i:Nat):Cs:=Fb f.bog f.heaps f.need (cs0 f.bog.worth.length) ((L.take 30).take i)
theorem Zu {f:Fm} {L:List Tx}:Ny f L 0=cs0 f.bog.worth.length:=by unfold Ny;rw [List.take_zero];rfl
theorem PS (f:Fm) (hE:newE f.bog f.heaps f.need=0) (L:List Tx) (i:Nat):C8 f.bog f.heaps f.need (Ny f L i):=Pn (Ga hE) _ (M7 (Ga hE))
theorem Rp {f:Fm} {L:List Tx} {i:Nat} (hi:i < (L.take 30).length):Ny f L (i+1)=Mx f.bog f.heaps f.need (Ny f L i) (L.take 30)[i]:=Gm hi
set_option maxHeartbeats 2000000 in
theorem za (f:Fm) (hf:Er f) (L:List Tx) (hk:L.length <= 9223372036854775807) (hE:newE f.bog f.heaps f.need ≠ 0):AR Tryz.prog 6 [LK f,Gi L] (.one (.dv (.bool true))):=by
 refine Bu Tryz.func6 rfl rfl (by rw [Tryz.ntmps6];simp) fun cx hP hn hg=>?_
 rw [Tryz.ntmps6] at hn
 rw [Bq,Bp]
 simp only [List.nil_append,List.append_nil,List.cons_append,BF,Nat.reduceAdd]
 refine sg ?_
 refine qp BX ?_
 refine qv A9 ?_
 refine AJ ?_
 refine sg ?_
 refine qv (AQ EN Eh) ?_
 refine Bo (f18 f hf.1 hf.2) ?_
 refine qx A8 (fun GI=>?_) (fun GI=>?_)
 ·try simp at GI
  iterate 2 refine qk ?_
  refine qv Ai ?_
  refine Dw (hb:=by first | rfl | simp | simp_all) (ht:=?_)
  refine sg ?_
  refine Bo (f20) ?_
  refine qv A9 ?_
  refine AP ?_
  exact x1 (hr:=(DX))
 ·try simp at GI
  refine qv A8 ?_
  refine Bo (f19 L hk) ?_
  refine qv Ai ?_
  refine cd (fun hc0=>?_) (fun hc0=>?_)
  ·skip
   refine sg ?_
   refine Bo (f20) ?_
   refine qv A9 ?_
   refine AP ?_
   exact x1 (hr:=(DX))
  ·skip
   obtain ⟨hF,NY,NW⟩:=E9 (by simpa using hc0)
   have Oh:(L.take 30).length <= 30:=by simp;omega
   have htx:∀ i (hi:i < (L.take 30).length),(L.take 30)[i].length < 2000000:=fun i hi=>by rw [List.getElem_take];exact hF.2 i (by simp at hi;omega)
   refine AY ?_
   refine sg ?_
   refine qv (AQ EN Eh) ?_
   refine Dx (Kn f hE) [] [] [] ?_
   refine qv A8 ?_
   iterate 3 refine qv Bf ?_
   iterate 3 refine qv A9 ?_
   refine AJ ?_
   refine sg ?_
   refine qv A8 ?_
   refine qv Bn ?_
   refine Dw (hb:=(by rfl)) (ht:=?_)
   refine sg ?_
   refine qv (AQ EN Eh) ?_
   refine Bo (f22 f hE) ?_
   refine qv A9 ?_
   refine AP ?_
   exact x1 (hr:=(DX))
set_option maxHeartbeats 4000000 in
set_option maxRecDepth 100000 in
theorem A3I (f:Fm) (hf:Er f) (L:List Tx) (hk:L.length <= 9223372036854775807) (hE:newE f.bog f.heaps f.need=0):AR Tryz.prog 6 [LK f,Gi L] (.one (.dv (.bool true))):=by
 have F:=Ga hE
 refine Bu Tryz.func6 rfl rfl (by rw [Tryz.ntmps6];simp) fun cx hP hn hg=>?_
 rw [Tryz.ntmps6] at hn
 rw [Bq,Bp]
 simp only [List.nil_append,List.append_nil,List.cons_append,BF,Nat.reduceAdd]
 refine sg ?_
 refine qp BX ?_
 refine qv A9 ?_
 refine AJ ?_
 refine sg ?_
 refine qv (AQ EN Eh) ?_
 refine Bo (f18 f hf.1 hf.2) ?_
 refine qx A8 (fun GI=>?_) (fun GI=>?_)
 ·try simp at GI
  iterate 2 refine qk ?_
  refine qv Ai ?_
  refine Dw (hb:=by first | rfl | simp | simp_all) (ht:=?_)
  refine sg ?_
  refine Bo (f20) ?_
  refine qv A9 ?_
  refine AP ?_
  exact x1 (hr:=(DX))
 ·try simp at GI
  refine qv A8 ?_
  refine Bo (f19 L hk) ?_
  refine qv Ai ?_
  refine cd (fun hc0=>?_) (fun hc0=>?_)
  ·skip
   refine sg ?_
   refine Bo (f20) ?_
   refine qv A9 ?_
   refine AP ?_
   exact x1 (hr:=(DX))
  ·skip
   obtain ⟨hF,NY,NW⟩:=E9 (by simpa using hc0)
   have Oh:(L.take 30).length <= 30:=by simp;omega
   have htx:∀ i (hi:i < (L.take 30).length),(L.take 30)[i].length < 2000000:=fun i hi=>by rw [List.getElem_take];exact hF.2 i (by simp at hi;omega)
   refine AY ?_
   refine sg ?_
   refine qv (AQ EN Eh) ?_
   refine Dx (Km f hE) [] [] [100000,100001,100002,100003,100004,100005] ?_
   refine qv A8 ?_
   iterate 3 refine qv Bf ?_
   iterate 3 refine qv A9 ?_
   refine AJ ?_
   refine sg ?_
   refine qv A8 ?_
   refine qv Bn ?_
   refine Cv (hb:=(by rfl)) (ht:=?_)
   refine AY ?_
   refine sg ?_
   refine qv A8 ?_
   refine sQ (f23 L (by omega)) ?_
   refine qv A9 ?_
   refine AJ ?_
   refine sg ?_
   refine qv A9 ?_
   refine BD ?_
   refine Ag (ι:=Nat) (fun i=>⟨lk [(1,.dv (.list (((L.take 30)).map CY))),(2,.pt 2 0 0),(5,.pt 100000 0 0),(8,.dv (i64 (i:Nat)))],AA [(2,0,some ⟨[.dv (.list ((f.bog.worth).map ints)),.dv (.list ((f.heaps.links).map ints)),.dv (ints (f.heaps.ground)),.dv (i64 (f.need))],0,29,0,false⟩),(100000,0,some (Jg f.bog f.heaps f.need (Ny f L i))),(100001,0,some (Cy ((Ny f L i)).orders 0))]⟩) (fun i=>i <= (L.take 30).length) (fun i=>(L.take 30).length - i) 0 (by simp) (tl [(2,2),(100000,100000),(100001,100001)] (hF:=by simp [Ck,Aa,lk,AA,isLive,Ac,Zu,cs0]) (hM:=by simp [CV,Al,Aa,Ae,lk,AA,isLive,Ac,BK,BJ,Af,BI,BL,BO,BM,BN,Zu,cs0])) ?_
   intro i Aj
   refine AJ ?_
   refine sg ?_
   iterate 2 refine qv A8 ?_
   refine qv (BH Dg) ?_
   refine qv BQ ?_
   refine cd (fun hc2=>?_) (fun hc2=>?_)
   ·try simp at hc2
    refine AY ?_
    refine AJ ?_
    refine BD ?_
    refine sg ?_
    have hi:i < (L.take 30).length:=by simp only [List.length_take];omega
    have hx:(L.take 30)[i]?=some (L.take 30)[i]:=List.getElem?_eq_getElem hi
    have Sr:=PS f hE L i
    have nE:=PS f hE L (i+1)
    have hst:=Rp (f:=f) hi
    have hdo:=f24 f.bog f.heaps f.need (Ny f L i) F Sr (L.take 30)[i] (htx i hi)
    rw [<- hst] at hdo
    iterate 3 refine qv A8 ?_
    first | refine qv (BA CF DZ) ?_ | refine qv (Bd CF DZ) ?_
    refine qv (Bb DZ Mk) ?_
    refine Dx (hdo) [] [(100000,100000),(100001,100001)] [100000,100001] ?_
    refine sg ?_
    refine qv A8 ?_
    refine qv (AQ EN Eh) ?_
    refine Dx (f35 f.bog f.heaps f.need (Ny f L (i+1)) F nE) [] [(100000,100000),(100001,100001)] [100000,100001] ?_
    refine qv Bn ?_
    refine Cv (hb:=(by rfl)) (ht:=?_)
    refine AY ?_
    refine rg ?_
    refine qv A8 ?_
    refine qv Am ?_
    refine qv A9 ?_
    exact ⟨i+1,hi,(by simp only;omega),(tl [(2,2),(100000,100000),(100001,100001)])⟩
   ·try simp at hc2
    refine Ad ?_
    refine sg ?_
    refine Bo (f20) ?_
    refine qv A9 ?_
    refine AP ?_
    exact x1 (hr:=(DX))
theorem f6 (f:Fm) (hf:Er f) (L:List Tx) (hk:L.length <= 9223372036854775807):AR Tryz.prog 6 [LK f,Gi L] (.one (.dv (.bool true))):=by
 by_cases hE:newE f.bog f.heaps f.need=0
 ·exact A3I f hf L hk hE
 ·exact za f hf L hk hE
end Go.Ab.Tryz
