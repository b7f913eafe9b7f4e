/- The functions of the bog laws: cuttings, part 78. The walks are written by wip/gen/gw.py. -/
import Derived.Test.YtjcecljhjailiaaGreatDoorBogU0
import Derived.Test.YtjcecljhjailiaaGreatDoorBogS4
import Derived.Test.YtjcecljhjailiaaGreatDoorBogG07
set_option linter.all false
namespace Go.Ab.Tryz
open Go Go.Ab Go.Proofs Go.Ab.Ck Go.Ab.Gi
open Go.Ab.Heap (Az Ap BX)
open Go.Ab.Heap (Hp GX validate sm)
theorem Tt {ok:Nat -> Prop} {Cv:DV -> Prop} {M:Nat -> Nat × Option Au} {ss:List SV} {ds:List DV} (h:Ca (Data ok Cv M) ss ds):Data ok Cv M (.agg ss) (.agg ds) :=
 .agg ss ds (FM h) fun j s c h1 h2=>IG h j s c h1 h2
abbrev stD (c:Cs):List SV:=[.dv (i64 c.day),.dv (ints c.AU),.dv (ints c.Ad),.dv (i64 (c.Gj:Int)),.dv (i64 c.EL),.dv (i64 c.cut),.dv (i64 c.loaded),.dv (.bool c.shut),.dv (GL c.orders)]
theorem xD {b:Bg} {h:Hp} {n:Int} {c:Cs} (ok:C9 b h n c) {r i k:Nat} (hi:i < c.AU.length) (hk:Az c.AU i=(k:Int)) (hr:k <= r):((c.Gj &&& gX b r i:Nat):Int)=0:=by
 apply Classical.byContradiction
 intro h1
 have h2:=Rp.1 (show ((c.Gj &&& 2 ^ (r * b.worth.length+i):Nat):Int) ≠ 0 from h1)
 have h3:=ok.uE _ h2
 rw [bq ok.hol hi,decide_eq_true_eq,hk] at h3
 omega
set_option maxHeartbeats 2000000 in
theorem f91 (c:Cs) (h1:c.AU.length < 1000) (h2:c.Ad.length < 1000):AR Tryz.prog 91 [dSt c,dSt c] (.one (.dv (.bool true))):=by
 refine Bv Tryz.func91 rfl rfl (by rw [Tryz.ntmps91];simp) fun cx hP hn hg=>?_
 rw [Tryz.ntmps91] at hn
 rw [Br,Bq]
 simp only [List.nil_append,List.append_nil,List.cons_append,BH,Nat.reduceAdd]
 refine sg ?_
 iterate 2 refine qp Bu ?_
 refine qv A9 ?_
 refine sg ?_
 refine qv (AB VD) ?_
 refine qv (AQ Aw Bw) ?_
 refine qv (AB VD) ?_
 refine qv (AQ Aw Bw) ?_
 refine qv Bl ?_
 refine qx A8 (fun F6=>?_) (fun F6=>?_)
 rotate_left
 ·exact absurd F6 ((by simp))
 refine qv (AB Eb) ?_
 refine qv (AQ Av Bz) ?_
 refine qv (AB Eb) ?_
 refine qv (AQ Av Bz) ?_
 refine CF (f131 c.AU c.AU (by omega)) ?_
 refine qv Ae ?_
 refine qx A8 (fun PI=>?_) (fun PI=>?_)
 rotate_left
 ·exact absurd PI ((by simp))
 refine qv (AB FJ) ?_
 refine qv (AQ Av Bz) ?_
 refine qv (AB FJ) ?_
 refine qv (AQ Av Bz) ?_
 refine CF (f131 c.Ad c.Ad (by omega)) ?_
 refine qv Ae ?_
 refine qx A8 (fun Sb=>?_) (fun Sb=>?_)
 rotate_left
 ·exact absurd Sb ((by simp))
 refine qv (AB J4) ?_
 refine qv (AQ Aw Bw) ?_
 refine qv (AB J4) ?_
 refine qv (AQ Aw Bw) ?_
 refine qv Bl ?_
 refine qv Ae ?_
 refine qx A8 (fun J3=>?_) (fun J3=>?_)
 rotate_left
 ·exact absurd J3 ((by simp))
 refine qv (AB Jj) ?_
 refine qv (AQ Aw Bw) ?_
 refine qv (AB Jj) ?_
 refine qv (AQ Aw Bw) ?_
 refine qv Bl ?_
 refine qv Ae ?_
 refine qx A8 (fun PG=>?_) (fun PG=>?_)
 rotate_left
 ·exact absurd PG ((by simp))
 refine qv (AB KR) ?_
 refine qv (AQ Aw Bw) ?_
 refine qv (AB KR) ?_
 refine qv (AQ Aw Bw) ?_
 refine qv Bl ?_
 refine qv Ae ?_
 refine qx A8 (fun NM=>?_) (fun NM=>?_)
 rotate_left
 ·exact absurd NM ((by simp))
 refine qv (AB OU) ?_
 refine qv (AQ Aw Bw) ?_
 refine qv (AB OU) ?_
 refine qv (AQ Aw Bw) ?_
 refine qv Bl ?_
 refine qv Ae ?_
 refine qx A8 (fun XB=>?_) (fun XB=>?_)
 rotate_left
 ·exact absurd XB ((by simp))
 refine qv (AB RI) ?_
 refine qv (AQ Ga YO) ?_
 refine qv (AB RI) ?_
 refine qv (AQ Ga YO) ?_
 refine qv (aN ib4) ?_
 refine qv Ae ?_
 refine qv A9 ?_
 refine AV ?_
 exact x1 (hr:=(Ej (by simp)))
set_option maxHeartbeats 4000000 in
set_option maxRecDepth 100000 in
theorem f49 (b:Bg) (h:Hp) (n:Int) (c:Cs) (F:Fn b h n) (ok:C9 b h n c) (rc:UJ b h n c):BA Tryz.prog 49 [.pt 100000 0 0] (Bj (pair b h n c 0 100004)) ⟨[.dv (.bool true)],Bj (pair b h n c 0 100004)⟩:=by
 have h5:=F.vh.n5
 have hd4:=F.bg.d4
 have X8:=F.bg.n6
 have tY:=ok.hol.len
 have htl:=ok.MV
 have hb1':∀ k,k <= c.AU.length -> 0 <= sm (Az c.AU) k /\ sm (Az c.AU) k <= 4 * k:=Zw fun j hj=>by have:=ok.hol.bd j hj;omega
 have htb:∀ j,j < c.Ad.length -> 0 <= Az c.Ad j /\ Az c.Ad j <= 1000:=fun j hj=>by have:=(ok.t30 F.vh).bd j (by omega);omega
 have hcu:=ok.cut
 have hcb:=ok.lV
 have hba:=ok.bal
 have hmo:=ok.EL
 have hmb:=ok.oO
 have hl0:=ok.vZ
 have hlb:=ok.ldb
 have hgr:0 <= nI c:=by unfold nI;omega
 have hwf:=ok.Gj n
 have zZ:=NQ F.mn
 have h82:=f82 b c.AU
 rw [ok.qA,if_pos rfl] at h82
 have h88:=H.f88 h c.Ad
 rw [H.VR (ok.chk F),H.gJ ok.calm] at h88
 have h46:=OV F ok rc
 have hfw:=VB ok
 refine EI Tryz.func49 rfl rfl (by rw [Tryz.ntmps49];simp) fun cx hP hn hg=>?_
 rw [Tryz.ntmps49] at hn
 refine CB ?_
 refine sg ?_
 refine qv A9 ?_
 refine AL ?_
 refine sg ?_
 refine qv A8 ?_
 refine KG L9 ?_
 refine Dy (hb:=(by rfl)) (ht:=?_)
 refine Af ?_
 refine sg ?_
 refine qv A8 ?_
 refine CY (f68 b h n c F ok) [] [(100000,100000),(100001,100001)] [100000,100001] ?_
 refine qp (IJ Vm) ?_
 refine qs (Cu L8) ?_
 refine AL ?_
 refine rd mixed ?_
 refine zv A8 ?_
 refine zv CK ?_
 refine zv (AB NT) ?_
 refine zv (AY Dw EC) ?_
 refine zv (AB Eb) ?_
 refine zv (AQ Av Bz) ?_
 refine Kz (R:=[]) (h82) ?_
 refine zv A8 ?_
 iterate 2 refine zv BZ ?_
 iterate 2 refine zv A9 ?_
 refine ⟨by rfl,?_⟩
 refine AL ?_
 refine rd mixed ?_
 refine zv A8 ?_
 refine zv CK ?_
 refine zv (AB Pm) ?_
 refine zv (AY Dp Dt) ?_
 refine zv (AB FJ) ?_
 refine zv (AQ Av Bz) ?_
 refine Kz (R:=[]) (h88) ?_
 refine zv A8 ?_
 iterate 2 refine zv BZ ?_
 iterate 2 refine zv A9 ?_
 refine ⟨by rfl,?_⟩
 refine AL ?_
 refine sg ?_
 refine qv A8 ?_
 refine qv Ay ?_
 refine qx A8 (fun kC=>?_) (fun kC=>?_)
 ·exact absurd kC ((by simp))
 refine qv A8 ?_
 refine qv Ay ?_
 refine qv Ae ?_
 refine qx A8 (fun NM=>?_) (fun NM=>?_)
 ·exact absurd NM ((by simp))
 refine qv A8 ?_
 refine qv CP ?_
 refine qv Ae ?_
 refine qx A8 (fun PE=>?_) (fun PE=>?_)
 ·exact absurd PE ((by simp))
 refine qv (AB Jj) ?_
 refine qv (AQ Aw Bw) ?_
 refine qv A8 ?_
 refine qv (AB OU) ?_
 refine qv (AQ Aw Bw) ?_
 refine qv Aq ?_
 refine qv Ay ?_
 refine qv Ae ?_
 refine qx A8 (fun Ls=>?_) (fun Ls=>?_)
 ·exact absurd Ls ((by simp;omega))
 refine qv (AY L8 Ve) ?_
 refine CF (f89 c (by omega) (by omega) (by omega) htb) ?_
 refine qv BK ?_
 refine qv Ae ?_
 refine Dy (hb:=(by simp;omega)) (ht:=?_)
 refine Af ?_
 refine sg ?_
 refine qv A9 ?_
 refine AL ?_
 refine sg ?_
 refine qv (AB Eb) ?_
 refine qv (AQ Av Bz) ?_
 refine qv (BD Cj) ?_
 refine qv A8 ?_
 refine BI ?_
 refine Ao (ι:=Nat) (fun i=>⟨lk [(0,.pt 100000 0 0),(3,.pt 3 0 0),(8,.dv (i64 (sm (Az c.AU) i))),(64,.dv (ints (c.AU))),(65,.dv (i64 ((c.AU.length:Int)))),(66,.dv (i64 (i:Nat)))],AA [(100000,0,some (VQ b h n c 0 100001 100003)),(3,0,some ⟨stD c,0,98,0,false⟩),(100001,0,some (Di c.orders 100004))]⟩) (fun i=>i <= c.AU.length) (fun i=>c.AU.length - i) 0 (by simp) (tl [(100000,100000),(3,3),(100001,100001)] (hF:=by simp [DK,AX,lk,AA,isLive,AZ,sm,CW]) (hM:=by simp [Cm,Ar,AX,Aa,lk,AA,isLive,AZ,BO,BN,Al,BL,BP,BS,BQ,BR,sm,CW])) ?_
 intro i BM
 refine sg ?_
 refine qv BK ?_
 refine AL ?_
 refine cd (fun hc2=>?_) (fun hc2=>?_)
 ·try simp at hc2
  refine Af ?_
  refine AL ?_
  refine BI ?_
  refine sg ?_
  refine qv A8 ?_
  have hi:i < c.AU.length:=by omega
  have hga:=Ap hi
  have hbi:=ok.hol.bd i hi
  obtain ⟨k,hk⟩:∃ k:Nat,Az c.AU i=(k:Int):=⟨(Az c.AU i).toNat,by omega⟩
  have hkd:k <= b.dep:=by omega
  have hsb:=hb1' i (by omega)
  have hsn:sm (Az c.AU) (i+1)=sm (Az c.AU) i+(k:Int):=by simp only [sm];omega
  rw [hk] at hga
  first | refine qv (BF BG Aw) ?_ | refine qv (Bf BG Aw) ?_
  refine qv (Bb Aw Bw) ?_
  iterate 2 refine qv A9 ?_
  refine sg ?_
  iterate 2 refine qv A8 ?_
  refine qv Aq ?_
  refine qv A9 ?_
  refine sg ?_
  refine qv A8 ?_
  refine qv A9 ?_
  refine BI ?_
  refine Ao (ι:=Nat) (fun r=>⟨lk [(0,.pt 100000 0 0),(3,.pt 3 0 0),(8,.dv (i64 (sm (Az c.AU) i+(k:Int)))),(9,.dv (i64 (i:Nat))),(11,.dv (i64 (r:Nat))),(64,.dv (ints (c.AU))),(65,.dv (i64 ((c.AU.length:Int)))),(66,.dv (i64 (i:Nat)))],AA [(100000,0,some (VQ b h n c 0 100001 100003)),(3,0,some ⟨stD c,0,98,0,false⟩),(100001,0,some (Di c.orders 100004))]⟩) (fun r=>k <= r /\ r <= b.dep) (fun r=>b.dep - r) k ⟨Nat.le_refl _,by omega⟩ (tl [(100000,100000),(3,3),(100001,100001)]) ?_
  intro r IL
  refine AL ?_
  refine sg ?_
  iterate 2 refine qv A8 ?_
  refine qv CK ?_
  refine qv (AB Jl) ?_
  refine qv (AB Fh) ?_
  refine qv (AQ Aw Bw) ?_
  refine qv BK ?_
  refine cd (fun hc3=>?_) (fun hc3=>?_)
  ·try simp at hc3
   have hr3:r < b.dep:=by omega
   refine Af ?_
   refine AL ?_
   refine BI ?_
   refine AL ?_
   refine rd mixed ?_
   refine zv (AB J4) ?_
   refine zv (AQ Aw Bw) ?_
   iterate 3 refine zv A8 ?_
   refine Kz (R:=[100000]) (f90 b F.bg h n c 0 r i hr3 (by omega)) ?_ (ha:=(CV (NY (by (first | (simp only [AA,reduceIte,Nat.reduceEqDiff]<;>rfl) | (simp [Oe,AA]<;>rfl)))) (CV Bo (CV Bo FI))))
   refine zv (Qt (ha:=by omega) (hb:=by have:=Sz F.bg (r:=r) (k:=i) (by omega) (by omega);omega)) ?_
   refine zv Ay ?_
   refine ⟨by rfl,?_⟩
   refine Dy (hb:=(by simp [xD ok hi hk IL.1])) (ht:=?_)
   refine Af ?_
   refine rg ?_
   refine qv A8 ?_
   refine qv Aq ?_
   refine qv A9 ?_
   exact ⟨r+1,⟨by omega,by omega⟩,(by simp only;omega),(tl [(100000,100000),(3,3),(100001,100001)])⟩
  ·try simp at hc3
   refine Ai ?_
   refine rg ?_
   refine qv Aq ?_
   refine qv A8 ?_
   exact ⟨i+1,hi,(by simp only;omega),(tl [(100000,100000),(3,3),(100001,100001)] (hF:=by simp [DK,AX,lk,AA,isLive,AZ,hsn,CW]) (hM:=by simp [Cm,Ar,AX,Aa,lk,AA,isLive,AZ,BO,BN,Al,BL,BP,BS,BQ,BR,hsn,CW]))⟩
 ·try simp at hc2
  obtain rfl:i=c.AU.length:=by omega
  refine Ai ?_
  refine AL ?_
  refine rd mixed ?_
  refine zv A8 ?_
  refine zv CK ?_
  refine zv (AB NT) ?_
  refine zv (AY Dw EC) ?_
  refine zv A8 ?_
  refine zv CK ?_
  refine zv (AB Pm) ?_
  refine zv (AY Dp Dt) ?_
  refine zv A8 ?_
  refine zv CK ?_
  refine zv (AB Jl) ?_
  refine zv (AB VE) ?_
  refine zv (AQ Aw Bw) ?_
  refine zv (AB KQ) ?_
  refine zv (AQ P9 PS) ?_
  refine Kz (R:=[]) (f81 c.orders hfw) ?_
  refine UL (h46) [] [] [100002,100003] ?_
  refine zv A8 ?_
  iterate 3 refine zv BZ ?_
  iterate 3 refine zv A9 ?_
  refine ⟨by rfl,?_⟩
  refine AL ?_
  refine rd mixed ?_
  refine zv A8 ?_
  refine zv (AB KR) ?_
  refine zv (AQ Aw Bw) ?_
  refine zv Bl ?_
  refine zx A8 (fun XZ=>?_) (fun XZ=>?_)
  rotate_left
  ·exact absurd XZ ((by simp;omega))
  refine zv A8 ?_
  refine zv Bl ?_
  refine zv Ae ?_
  refine zx A8 (fun tu=>?_) (fun tu=>?_)
  rotate_left
  ·exact absurd tu ((by simp))
  refine zv A8 ?_
  refine zv CK ?_
  refine zv (AB GD) ?_
  iterate 2 refine zv (AY L8 Ve) ?_
  refine Kz (R:=[100003]) (f91 c (by omega) (by omega)) ?_ (ha:=(CV (Tt (CV Bo (CV Bo (CV Bo (CV Bo (CV Bo (CV Bo (CV Bo (CV Bo (CV (EW (L:=c.orders) (by (first | (simp only [AA,reduceIte,Nat.reduceEqDiff]<;>rfl) | (simp [Oe,AA]<;>rfl))) trivial rfl (fun _=>trivial)) FI)))))))))) (CV Bo FI)))
  refine zv Ae ?_
  refine zv A9 ?_
  refine ⟨by rfl,?_⟩
  refine AV ?_
  exact xg [(100000,100000),(100001,100001)]
end Go.Ab.Tryz
