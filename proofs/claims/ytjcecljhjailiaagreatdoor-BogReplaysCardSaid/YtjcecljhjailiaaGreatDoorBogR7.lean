/- The functions of the bog laws: cuttings, part 64. The walks are written by wip/gen/gw.py. -/
import Derived.Test.YtjcecljhjailiaaGreatDoorBogR6
import Derived.Test.YtjcecljhjailiaaGreatDoorBogG07
set_option linter.all false
namespace Go.Ab.Tryz
open Go Go.Ab Go.Proofs Go.Ab.Ci Go.Ab.Gx
open Go.Ab.Heap (Az Ah BZ)
open H (Uu Ed)
open Go.Ab.Heap (Hp Et validate sm)
theorem ZM (k:Nat):Qt (cs0 k)=0:=by
 have e:∀ i,Az (List.replicate k 0) i=0:=fun i=>by
  unfold Az
  rw [List.getD_eq_getElem?_getD,List.getElem?_replicate]
  split<;>rfl
 unfold Qt
 show (0:Int) - 0 - sm (Az (List.replicate k 0)) _=0
 rw [Go.Ab.Heap.Ct (g:=fun _=>0) fun i _=>e i,Go.Ab.Heap.JN];rfl
abbrev gU (b:Bg) (h:Hp) (n:Int) (c:Cs):List (Nat × BG):=[(100000,wR b h n c 0),(100001,rowIs c.AU 0),(100002,rowIs c.AX 0),(100003,Cy c.orders 0)]
theorem Rm (b:Bg) (h:Hp) (n:Int) (hE:newE b h n ≠ 0):Aw Tryz.prog 33 [.dv (KJ b),.dv (Et h),.dv (i64 n)] (Ba []) ⟨[.dv .DI,.dv (i64 (newE b h n))],Ba []⟩:=by
 unfold newE at hE ⊢
 refine DC Tryz.func33 rfl rfl (by rw [Tryz.ntmps33];simp) fun cx hP hn hg=>?_
 rw [Tryz.ntmps33] at hn
 refine Bj ?_
 refine sg ?_
 iterate 2 refine qp BX ?_
 iterate 2 refine qv A9 ?_
 refine sg ?_
 refine qv (AQ D9 DW) ?_
 refine Bo (f77 b) ?_
 refine qv A9 ?_
 refine AJ ?_
 refine sg ?_
 refine qv A8 ?_
 refine qv BP ?_
 refine cd (fun hc0=>?_) (fun hc0=>?_)
 ·skip
  have hv:Nr b ≠ 0:=by simpa using hc0
  rw [if_pos hv]
  refine sg ?_
  refine qv A8 ?_
  iterate 2 refine qv A9 ?_
  refine AP ?_
  exact xg []
 ·skip
  have hv:Nr b=0:=by simpa using hc0
  rw [if_neg (by simp [hv])] at hE ⊢
  have ok:=UZ hv
  have hn0:=ok.n0
  have hg0:=Ef hn0
  refine AY ?_
  refine sg ?_
  refine qv (AQ Cq Cr) ?_
  refine Bo (H.f78 h) ?_
  refine qv A9 ?_
  refine AJ ?_
  refine sg ?_
  refine qv A8 ?_
  refine qv BP ?_
  refine cd (fun hc1=>?_) (fun hc1=>?_)
  ·skip
   have hw:validate h ≠ 0:=by simpa using hc1
   rw [if_pos hw]
   refine sg ?_
   refine qv A8 ?_
   iterate 2 refine qv A9 ?_
   refine AP ?_
   exact xg []
  ·skip
   have hw:validate h=0:=by simpa using hc1
   rw [if_neg (by simp [hw])] at hE ⊢
   refine AY ?_
   refine sg ?_
   refine qv (AB Cb) ?_
   refine qv (AL DF Da) ?_
   refine qv (BH Ka) ?_
   refine qv A9 ?_
   refine AJ ?_
   refine sg ?_
   refine qv (AB F6) ?_
   refine qv (AL Av Bl) ?_
   refine qv (BH CZ) ?_
   refine qv A8 ?_
   refine qv BP ?_
   refine cd (fun hc2=>?_) (fun hc2=>?_)
   ·try simp at hc2
    have hl:h.ground.length ≠ b.worth.length:=by omega
    rw [if_pos hl]
    refine sg ?_
    iterate 2 refine qv A9 ?_
    refine AP ?_
    exact xg []
   ·try simp at hc2
    have hl:h.ground.length=b.worth.length:=by omega
    rw [if_neg (by simp [hl])] at hE ⊢
    refine AY ?_
    refine sg ?_
    refine qv (AB Cb) ?_
    refine qv (AL DF Da) ?_
    first | refine qv (BA CO Av) ?_ | refine qv (Bd CO Av) ?_
    refine qv (Bb Av Bl) ?_
    refine qv (BH CZ) ?_
    iterate 2 refine qv A8 ?_
    refine qv (DJ sS YI) ?_
    refine qp (Fj YI) ?_
    refine qs (CK H7) ?_
    refine sg ?_
    refine qv (AQ H7 JI) ?_
    refine Bo (f79 (OZ b n)) ?_
    refine qv A9 ?_
    refine AJ ?_
    refine sg ?_
    refine qv A8 ?_
    refine qv BP ?_
    refine Dw (hb:=(by simpa using hE)) (ht:=?_)
    refine sg ?_
    refine qv A8 ?_
    iterate 2 refine qv A9 ?_
    refine AP ?_
    exact xg []
set_option maxHeartbeats 2000000 in
theorem Xd (b:Bg) (h:Hp) (n:Int) (hE:newE b h n=0):Aw Tryz.prog 33 [.dv (KJ b),.dv (Et h),.dv (i64 n)] (Ba []) ⟨[.pt 100000 0 0,.dv (i64 0)],Ba (gU b h n (cs0 b.worth.length))⟩:=by
 obtain ⟨hv,hw,hl,hm⟩:=bE hE
 have ok:=UZ hv
 have hn0:=ok.n0
 have Uz:=ok.n6
 have hg0:=Ef hn0
 have hgr:=ZM b.worth.length
 refine DC Tryz.func33 rfl rfl (by rw [Tryz.ntmps33];simp) fun cx hP hn hg=>?_
 rw [Tryz.ntmps33] at hn
 refine Bj ?_
 refine sg ?_
 iterate 2 refine qp BX ?_
 iterate 2 refine qv A9 ?_
 refine sg ?_
 refine qv (AQ D9 DW) ?_
 refine Bo (f77 b) ?_
 refine qv A9 ?_
 refine AJ ?_
 refine sg ?_
 refine qv A8 ?_
 refine qv BP ?_
 refine Cv (hb:=(by simp [hv])) (ht:=?_)
 refine AY ?_
 refine sg ?_
 refine qv (AQ Cq Cr) ?_
 refine Bo (H.f78 h) ?_
 refine qv A9 ?_
 refine AJ ?_
 refine sg ?_
 refine qv A8 ?_
 refine qv BP ?_
 refine Cv (hb:=(by simp [hw])) (ht:=?_)
 refine AY ?_
 refine sg ?_
 refine qv (AB Cb) ?_
 refine qv (AL DF Da) ?_
 refine qv (BH Ka) ?_
 refine qv A9 ?_
 refine AJ ?_
 refine sg ?_
 refine qv (AB F6) ?_
 refine qv (AL Av Bl) ?_
 refine qv (BH CZ) ?_
 refine qv A8 ?_
 refine qv BP ?_
 refine Cv (hb:=(by simp [hl])) (ht:=?_)
 refine AY ?_
 refine sg ?_
 refine qv (AB Cb) ?_
 refine qv (AL DF Da) ?_
 first | refine qv (BA CO Av) ?_ | refine qv (Bd CO Av) ?_
 refine qv (Bb Av Bl) ?_
 refine qv (BH CZ) ?_
 iterate 2 refine qv A8 ?_
 refine qv (DJ sS YI) ?_
 refine qp (Fj YI) ?_
 refine qs (CK H7) ?_
 refine sg ?_
 refine qv (AQ H7 JI) ?_
 refine Bo (f79 (OZ b n)) ?_
 refine qv A9 ?_
 refine AJ ?_
 refine sg ?_
 refine qv A8 ?_
 refine qv BP ?_
 refine Cv (hb:=(by simp [hm])) (ht:=?_)
 refine AY ?_
 refine AJ ?_
 refine rd mixed ?_
 refine zv (AQ D9 DW) ?_
 refine zqA (R:=[]) (f80 b ok) ?_
 refine zv (AQ Cq Cr) ?_
 refine zv (AQ H7 JI) ?_
 refine zv A8 ?_
 refine zr (TA Ap Jq Ak U7) ?_
 refine zv A8 ?_
 refine zr (TA Ap Jq Ak U7) ?_
 refine zv (DJ pl67 ze67) ?_
 refine zp BX ?_
 iterate 2 refine zv A9 ?_
 refine ⟨by rfl,?_⟩
 refine AP ?_
 exact xg [(100000,51),(100001,47),(100002,49)] (h2:=by
  simp [CV,Al,Ae,Aa,isLive,Ac,Ba,AA,Ch,BK,BJ,CR,Af,BI,BL,BO,BM,BN,Dv,hgr]
  simp [CV,Al,Ae,Aa,isLive,Ac,Ba,AA,Ch,BK,BJ,CR,Af,BI,BL,BO,BM,BN,Dv,cs0]
  rfl)
end Go.Ab.Tryz
