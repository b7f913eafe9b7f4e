/- The functions of the bog laws: cuttings, part 64. The walks are written by wip/gen/gw.py. -/
import Derived.Test.YtjcecljhjailiaaGreatDoorBogR6
import Derived.Test.YtjcecljhjailiaaGreatDoorBogG07
set_option linter.all false
namespace Go.Ab.Tryz
open Go Go.Ab Go.Proofs Go.Ab.Ck Go.Ab.Gi
open Go.Ab.Heap (Az Ap BX)
open H (SL Et)
open Go.Ab.Heap (Hp GX validate sm)
theorem A0G (k:Nat):nI (cs0 k)=0:=by
 have e:∀ i,Az (List.replicate k 0) i=0:=fun i=>by
  unfold Az
  rw [List.getD_eq_getElem?_getD,List.getElem?_replicate]
  split<;>rfl
 unfold nI
 show (0:Int) - 0 - sm (Az (List.replicate k 0)) _=0
 rw [Go.Ab.Heap.Ci (g:=fun _=>0) fun i _=>e i,Go.Ab.Heap.JV];rfl
abbrev A0I (b:Bg) (h:Hp) (n:Int) (c:Cs):List (Nat × Au):=[(100000,rfB b h n c 0),(100001,rowIs c.AU 0),(100002,rowIs c.Ad 0),(100003,Di c.orders 0)]
theorem bL (b:Bg) (h:Hp) (n:Int) (hE:newE b h n ≠ 0):BA Tryz.prog 33 [.dv (RX b),.dv (GX h),.dv (i64 n)] (Bj []) ⟨[.dv .CU,.dv (i64 (newE b h n))],Bj []⟩:=by
 unfold newE at hE ⊢
 refine EI Tryz.func33 rfl rfl (by rw [Tryz.ntmps33];simp) fun cx hP hn hg=>?_
 rw [Tryz.ntmps33] at hn
 refine CB ?_
 refine sg ?_
 iterate 2 refine qp Bu ?_
 iterate 2 refine qv A9 ?_
 refine sg ?_
 refine qv (AY Dw EC) ?_
 refine CF (f77 b) ?_
 refine qv A9 ?_
 refine AL ?_
 refine sg ?_
 refine qv A8 ?_
 refine qv Ay ?_
 refine cd (fun hc0=>?_) (fun hc0=>?_)
 ·skip
  have hv:Nj b ≠ 0:=by simpa using hc0
  rw [if_pos hv]
  refine sg ?_
  refine qv A8 ?_
  iterate 2 refine qv A9 ?_
  refine AV ?_
  exact xg []
 ·skip
  have hv:Nj b=0:=by simpa using hc0
  rw [if_neg (by simp [hv])] at hE ⊢
  have ok:=U6 hv
  have hn0:=ok.n0
  have hg0:=Eu hn0
  refine Af ?_
  refine sg ?_
  refine qv (AY Dp Dt) ?_
  refine CF (H.f78 h) ?_
  refine qv A9 ?_
  refine AL ?_
  refine sg ?_
  refine qv A8 ?_
  refine qv Ay ?_
  refine cd (fun hc1=>?_) (fun hc1=>?_)
  ·skip
   have hw:validate h ≠ 0:=by simpa using hc1
   rw [if_pos hw]
   refine sg ?_
   refine qv A8 ?_
   iterate 2 refine qv A9 ?_
   refine AV ?_
   exact xg []
  ·skip
   have hw:validate h=0:=by simpa using hc1
   rw [if_neg (by simp [hw])] at hE ⊢
   refine Af ?_
   refine sg ?_
   refine qv (AB Ch) ?_
   refine qv (AQ DJ DW) ?_
   refine qv (BD KO) ?_
   refine qv A9 ?_
   refine AL ?_
   refine sg ?_
   refine qv (AB FK) ?_
   refine qv (AQ Av Bz) ?_
   refine qv (BD Cj) ?_
   refine qv A8 ?_
   refine qv Ay ?_
   refine cd (fun hc2=>?_) (fun hc2=>?_)
   ·try simp at hc2
    have hl:h.ground.length ≠ b.worth.length:=by omega
    rw [if_pos hl]
    refine sg ?_
    iterate 2 refine qv A9 ?_
    refine AV ?_
    exact xg []
   ·try simp at hc2
    have hl:h.ground.length=b.worth.length:=by omega
    rw [if_neg (by simp [hl])] at hE ⊢
    refine Af ?_
    refine sg ?_
    refine qv (AB Ch) ?_
    refine qv (AQ DJ DW) ?_
    first | refine qv (BF CJ Av) ?_ | refine qv (Bf CJ Av) ?_
    refine qv (Bb Av Bz) ?_
    refine qv (BD Cj) ?_
    iterate 2 refine qv A8 ?_
    refine qv (DC oF Vn) ?_
    refine qp (IJ Vn) ?_
    refine qs (Cu Jw) ?_
    refine sg ?_
    refine qv (AY Jw Np) ?_
    refine CF (f79 (PD b n)) ?_
    refine qv A9 ?_
    refine AL ?_
    refine sg ?_
    refine qv A8 ?_
    refine qv Ay ?_
    refine G5 (hb:=(by simpa using hE)) (ht:=?_)
    refine sg ?_
    refine qv A8 ?_
    iterate 2 refine qv A9 ?_
    refine AV ?_
    exact xg []
set_option maxHeartbeats 2000000 in
theorem wY (b:Bg) (h:Hp) (n:Int) (hE:newE b h n=0):BA Tryz.prog 33 [.dv (RX b),.dv (GX h),.dv (i64 n)] (Bj []) ⟨[.pt 100000 0 0,.dv (i64 0)],Bj (A0I b h n (cs0 b.worth.length))⟩:=by
 obtain ⟨hv,hw,hl,hm⟩:=Yu hE
 have ok:=U6 hv
 have hn0:=ok.n0
 have X8:=ok.n6
 have hg0:=Eu hn0
 have hgr:=A0G b.worth.length
 refine EI Tryz.func33 rfl rfl (by rw [Tryz.ntmps33];simp) fun cx hP hn hg=>?_
 rw [Tryz.ntmps33] at hn
 refine CB ?_
 refine sg ?_
 iterate 2 refine qp Bu ?_
 iterate 2 refine qv A9 ?_
 refine sg ?_
 refine qv (AY Dw EC) ?_
 refine CF (f77 b) ?_
 refine qv A9 ?_
 refine AL ?_
 refine sg ?_
 refine qv A8 ?_
 refine qv Ay ?_
 refine Dy (hb:=(by simp [hv])) (ht:=?_)
 refine Af ?_
 refine sg ?_
 refine qv (AY Dp Dt) ?_
 refine CF (H.f78 h) ?_
 refine qv A9 ?_
 refine AL ?_
 refine sg ?_
 refine qv A8 ?_
 refine qv Ay ?_
 refine Dy (hb:=(by simp [hw])) (ht:=?_)
 refine Af ?_
 refine sg ?_
 refine qv (AB Ch) ?_
 refine qv (AQ DJ DW) ?_
 refine qv (BD KO) ?_
 refine qv A9 ?_
 refine AL ?_
 refine sg ?_
 refine qv (AB FK) ?_
 refine qv (AQ Av Bz) ?_
 refine qv (BD Cj) ?_
 refine qv A8 ?_
 refine qv Ay ?_
 refine Dy (hb:=(by simp [hl])) (ht:=?_)
 refine Af ?_
 refine sg ?_
 refine qv (AB Ch) ?_
 refine qv (AQ DJ DW) ?_
 first | refine qv (BF CJ Av) ?_ | refine qv (Bf CJ Av) ?_
 refine qv (Bb Av Bz) ?_
 refine qv (BD Cj) ?_
 iterate 2 refine qv A8 ?_
 refine qv (DC oF Vn) ?_
 refine qp (IJ Vn) ?_
 refine qs (Cu Jw) ?_
 refine sg ?_
 refine qv (AY Jw Np) ?_
 refine CF (f79 (PD b n)) ?_
 refine qv A9 ?_
 refine AL ?_
 refine sg ?_
 refine qv A8 ?_
 refine qv Ay ?_
 refine Dy (hb:=(by simp [hm])) (ht:=?_)
 refine Af ?_
 refine AL ?_
 refine rd mixed ?_
 refine zv (AY Dw EC) ?_
 refine zqA (R:=[]) (f80 b ok) ?_
 refine zv (AY Dp Dt) ?_
 refine zv (AY Jw Np) ?_
 refine zv A8 ?_
 refine zr (TW BG Nu Aw ZY) ?_
 refine zv A8 ?_
 refine zr (TW BG Nu Aw ZY) ?_
 refine zv (DC pl67 ze67) ?_
 refine zp Bu ?_
 iterate 2 refine zv A9 ?_
 refine ⟨by rfl,?_⟩
 refine AV ?_
 exact xg [(100000,51),(100001,47),(100002,49)] (h2:=by
  simp [Cm,Ar,Aa,AX,isLive,AZ,Bj,AA,DZ,BO,BN,CW,Al,BL,BP,BS,BQ,BR,ED,hgr]
  simp [Cm,Ar,Aa,AX,isLive,AZ,Bj,AA,DZ,BO,BN,CW,Al,BL,BP,BS,BQ,BR,ED,cs0]
  rfl)
end Go.Ab.Tryz
