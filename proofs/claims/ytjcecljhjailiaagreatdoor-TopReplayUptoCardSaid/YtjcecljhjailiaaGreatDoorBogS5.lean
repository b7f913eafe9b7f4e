/- The functions of the bog laws: cuttings, part 68. The walks are written by wip/gen/gw.py. -/
import Derived.Test.YtjcecljhjailiaaGreatDoorBogS4
import Derived.Test.YtjcecljhjailiaaGreatDoorBogG22
import Derived.Test.YtjcecljhjailiaaGreatDoorBogG22
import Derived.Test.YtjcecljhjailiaaGreatDoorBogG07
set_option linter.all false
namespace Go.Ab.Tryz
open Go Go.Ab Go.Proofs Go.Ab.Ck Go.Ab.Gi
open Go.Ab.Heap (Az Ap BX)
open Go.Ab.Heap (Hp GX validate sm)
def LV (f:Fm):Prop:=f.bog.worth.length <= 9223372036854775807 /\ f.heaps.links.length <= 9223372036854775807
noncomputable def Rf (f:Fm) (L:List Tx) (i:Nat):Cs:=JC f.bog f.heaps f.need (cs0 f.bog.worth.length) ((L.take 30).take i)
theorem sF {f:Fm} {L:List Tx}:Rf f L 0=cs0 f.bog.worth.length:=by unfold Rf;rw [List.take_zero];rfl
theorem U9 (f:Fm) (hE:newE f.bog f.heaps f.need=0) (L:List Tx) (i:Nat):C9 f.bog f.heaps f.need (Rf f L i):=JW (JJ hE) _ (J5 (JJ hE))
theorem cK {f:Fm} {L:List Tx} {i:Nat} (hi:i < (L.take 30).length):Rf f L (i+1)=Ns f.bog f.heaps f.need (Rf f L i) (L.take 30)[i]:=GN hi
set_option maxHeartbeats 2000000 in
theorem wV (f:Fm) (hf:LV f) (L:List Tx) (hk:L.length <= 9223372036854775807) (hE:newE f.bog f.heaps f.need ≠ 0):AR Tryz.prog 6 [Vk f,GL L] (.one (.dv (.bool true))):=by
 refine Bv Tryz.func6 rfl rfl (by rw [Tryz.ntmps6];simp) fun cx hP hn hg=>?_
 rw [Tryz.ntmps6] at hn
 rw [Br,Bq]
 simp only [List.nil_append,List.append_nil,List.cons_append,BH,Nat.reduceAdd]
 refine sg ?_
 refine qp Bu ?_
 refine qv A9 ?_
 refine AL ?_
 refine sg ?_
 refine qv (AY Jy LA) ?_
 refine CF (f18 f hf.1 hf.2) ?_
 refine qx A8 (fun Lu=>?_) (fun Lu=>?_)
 ·try simp at Lu
  iterate 2 refine qk ?_
  refine qv Ae ?_
  refine G5 (hb:=by first | rfl | simp | simp_all) (ht:=?_)
  refine sg ?_
  refine CF (f20) ?_
  refine qv A9 ?_
  refine AV ?_
  exact x1 (hr:=(Ej))
 ·try simp at Lu
  refine qv A8 ?_
  refine CF (f19 L hk) ?_
  refine qv Ae ?_
  refine cd (fun hc0=>?_) (fun hc0=>?_)
  ·skip
   refine sg ?_
   refine CF (f20) ?_
   refine qv A9 ?_
   refine AV ?_
   exact x1 (hr:=(Ej))
  ·skip
   obtain ⟨hF,wL,wK⟩:=N7 (by simpa using hc0)
   have nG:(L.take 30).length <= 30:=by simp;omega
   have htx:∀ i (hi:i < (L.take 30).length),(L.take 30)[i].length < 2000000:=fun i hi=>by rw [List.getElem_take];exact hF.2 i (by simp at hi;omega)
   refine Af ?_
   refine sg ?_
   refine qv (AY Jy LA) ?_
   refine CY (bP f hE) [] [] [] ?_
   refine qv A8 ?_
   iterate 3 refine qv BZ ?_
   iterate 3 refine qv A9 ?_
   refine AL ?_
   refine sg ?_
   refine qv A8 ?_
   refine qv CP ?_
   refine G5 (hb:=(by rfl)) (ht:=?_)
   refine sg ?_
   refine qv (AY Jy LA) ?_
   refine CF (f22 f hE) ?_
   refine qv A9 ?_
   refine AV ?_
   exact x1 (hr:=(Ej))
set_option maxHeartbeats 4000000 in
set_option maxRecDepth 100000 in
theorem A0J (f:Fm) (hf:LV f) (L:List Tx) (hk:L.length <= 9223372036854775807) (hE:newE f.bog f.heaps f.need=0):AR Tryz.prog 6 [Vk f,GL L] (.one (.dv (.bool true))):=by
 have F:=JJ hE
 refine Bv Tryz.func6 rfl rfl (by rw [Tryz.ntmps6];simp) fun cx hP hn hg=>?_
 rw [Tryz.ntmps6] at hn
 rw [Br,Bq]
 simp only [List.nil_append,List.append_nil,List.cons_append,BH,Nat.reduceAdd]
 refine sg ?_
 refine qp Bu ?_
 refine qv A9 ?_
 refine AL ?_
 refine sg ?_
 refine qv (AY Jy LA) ?_
 refine CF (f18 f hf.1 hf.2) ?_
 refine qx A8 (fun Lu=>?_) (fun Lu=>?_)
 ·try simp at Lu
  iterate 2 refine qk ?_
  refine qv Ae ?_
  refine G5 (hb:=by first | rfl | simp | simp_all) (ht:=?_)
  refine sg ?_
  refine CF (f20) ?_
  refine qv A9 ?_
  refine AV ?_
  exact x1 (hr:=(Ej))
 ·try simp at Lu
  refine qv A8 ?_
  refine CF (f19 L hk) ?_
  refine qv Ae ?_
  refine cd (fun hc0=>?_) (fun hc0=>?_)
  ·skip
   refine sg ?_
   refine CF (f20) ?_
   refine qv A9 ?_
   refine AV ?_
   exact x1 (hr:=(Ej))
  ·skip
   obtain ⟨hF,wL,wK⟩:=N7 (by simpa using hc0)
   have nG:(L.take 30).length <= 30:=by simp;omega
   have htx:∀ i (hi:i < (L.take 30).length),(L.take 30)[i].length < 2000000:=fun i hi=>by rw [List.getElem_take];exact hF.2 i (by simp at hi;omega)
   refine Af ?_
   refine sg ?_
   refine qv (AY Jy LA) ?_
   refine CY (ku f hE) [] [] [100000,100001,100002,100003,100004,100005] ?_
   refine qv A8 ?_
   iterate 3 refine qv BZ ?_
   iterate 3 refine qv A9 ?_
   refine AL ?_
   refine sg ?_
   refine qv A8 ?_
   refine qv CP ?_
   refine Dy (hb:=(by rfl)) (ht:=?_)
   refine Af ?_
   refine sg ?_
   refine qv A8 ?_
   refine qqA (f23 L (by omega)) ?_
   refine qv A9 ?_
   refine AL ?_
   refine sg ?_
   refine qv A9 ?_
   refine BI ?_
   refine Ao (ι:=Nat) (fun i=>⟨lk [(1,.dv (.list (((L.take 30)).map Cg))),(2,.pt 2 0 0),(5,.pt 100000 0 0),(8,.dv (i64 (i:Nat)))],AA [(2,0,some ⟨[.dv (.list ((f.bog.worth).map ints)),.dv (.list ((f.heaps.links).map ints)),.dv (ints (f.heaps.ground)),.dv (i64 (f.need))],0,29,0,false⟩),(100000,0,some (Il f.bog f.heaps f.need (Rf f L i))),(100001,0,some (Di ((Rf f L i)).orders 0))]⟩) (fun i=>i <= (L.take 30).length) (fun i=>(L.take 30).length - i) 0 (by simp) (tl [(2,2),(100000,100000),(100001,100001)] (hF:=by simp [DK,AX,lk,AA,isLive,AZ,sF,cs0]) (hM:=by simp [Cm,Ar,AX,Aa,lk,AA,isLive,AZ,BO,BN,Al,BL,BP,BS,BQ,BR,sF,cs0])) ?_
   intro i BM
   refine AL ?_
   refine sg ?_
   iterate 2 refine qv A8 ?_
   refine qv (BD Ce) ?_
   refine qv BK ?_
   refine cd (fun hc2=>?_) (fun hc2=>?_)
   ·try simp at hc2
    refine Af ?_
    refine AL ?_
    refine BI ?_
    refine sg ?_
    have hi:i < (L.take 30).length:=by simp only [List.length_take];omega
    have hx:(L.take 30)[i]?=some (L.take 30)[i]:=List.getElem?_eq_getElem hi
    have Wl:=U9 f hE L i
    have zM:=U9 f hE L (i+1)
    have hst:=cK (f:=f) hi
    have hdo:=f24 f.bog f.heaps f.need (Rf f L i) F Wl (L.take 30)[i] (htx i hi)
    rw [<- hst] at hdo
    iterate 3 refine qv A8 ?_
    first | refine qv (BF CS Dh) ?_ | refine qv (Bf CS Dh) ?_
    refine qv (Bb Dh MK) ?_
    refine CY (hdo) [] [(100000,100000),(100001,100001)] [100000,100001] ?_
    refine sg ?_
    refine qv A8 ?_
    refine qv (AY Jy LA) ?_
    refine CY (f35 f.bog f.heaps f.need (Rf f L (i+1)) F zM) [] [(100000,100000),(100001,100001)] [100000,100001] ?_
    refine qv CP ?_
    refine Dy (hb:=(by rfl)) (ht:=?_)
    refine Af ?_
    refine rg ?_
    refine qv A8 ?_
    refine qv Aq ?_
    refine qv A9 ?_
    exact ⟨i+1,hi,(by simp only;omega),(tl [(2,2),(100000,100000),(100001,100001)])⟩
   ·try simp at hc2
    refine Ai ?_
    refine sg ?_
    refine CF (f20) ?_
    refine qv A9 ?_
    refine AV ?_
    exact x1 (hr:=(Ej))
theorem f6 (f:Fm) (hf:LV f) (L:List Tx) (hk:L.length <= 9223372036854775807):AR Tryz.prog 6 [Vk f,GL L] (.one (.dv (.bool true))):=by
 by_cases hE:newE f.bog f.heaps f.need=0
 ·exact A0J f hf L hk hE
 ·exact wV f hf L hk hE
end Go.Ab.Tryz
