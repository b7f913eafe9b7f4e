/- The functions of the bog laws: cuttings, part 78. The walks are written by wip/gen/gw.py. -/
import Derived.Test.YtjcecljhjailiaaGreatDoorBogU0
import Derived.Test.YtjcecljhjailiaaGreatDoorBogS4
import Derived.Test.YtjcecljhjailiaaGreatDoorBogG07
set_option linter.all false
namespace Go.Ab.Tryz
open Go Go.Ab Go.Proofs Go.Ab.Ci Go.Ab.Gx
open Go.Ab.Heap (Az Ah BZ)
open Go.Ab.Heap (Hp Et validate sm)
theorem kE {ok:Nat -> Prop} {Db:DV -> Prop} {M:Nat -> Nat × Option BG} {ss:List SV} {ds:List DV} (h:Cm (Data ok Db M) ss ds):Data ok Db M (.agg ss) (.agg ds) :=
 .agg ss ds (GL h) fun j s c h1 h2=>JG h j s c h1 h2
abbrev stD (c:Cs):List SV:=[.dv (i64 c.day),.dv (ints c.AU),.dv (ints c.AX),.dv (i64 (c.F3:Int)),.dv (i64 c.Ei),.dv (i64 c.cut),.dv (i64 c.loaded),.dv (.bool c.shut),.dv (Gi c.orders)]
theorem A04 {b:Bg} {h:Hp} {n:Int} {c:Cs} (ok:C8 b h n c) {r i k:Nat} (hi:i < c.AU.length) (hk:Az c.AU i=(k:Int)) (hr:k <= r):((c.F3 &&& aU b r i:Nat):Int)=0:=by
 apply Classical.byContradiction
 intro h1
 have h2:=Uf.1 (show ((c.F3 &&& 2 ^ (r * b.worth.length+i):Nat):Int) ≠ 0 from h1)
 have h3:=ok.vK _ h2
 rw [Y6 ok.hol hi,decide_eq_true_eq,hk] at h3
 omega
set_option maxHeartbeats 2000000 in
theorem f91 (c:Cs) (h1:c.AU.length < 1000) (h2:c.AX.length < 1000):AR Tryz.prog 91 [dSt c,dSt c] (.one (.dv (.bool true))):=by
 refine Bu Tryz.func91 rfl rfl (by rw [Tryz.ntmps91];simp) fun cx hP hn hg=>?_
 rw [Tryz.ntmps91] at hn
 rw [Bq,Bp]
 simp only [List.nil_append,List.append_nil,List.cons_append,BF,Nat.reduceAdd]
 refine sg ?_
 iterate 2 refine qp BX ?_
 refine qv A9 ?_
 refine sg ?_
 refine qv (AB Xc) ?_
 refine qv (AL Ak Br) ?_
 refine qv (AB Xc) ?_
 refine qv (AL Ak Br) ?_
 refine qv Bv ?_
 refine qx A8 (fun Gh=>?_) (fun Gh=>?_)
 rotate_left
 ·exact absurd Gh ((by simp))
 refine qv (AB FJ) ?_
 refine qv (AL Av Bl) ?_
 refine qv (AB FJ) ?_
 refine qv (AL Av Bl) ?_
 refine Bo (f131 c.AU c.AU (by omega)) ?_
 refine qv Ai ?_
 refine qx A8 (fun QE=>?_) (fun QE=>?_)
 rotate_left
 ·exact absurd QE ((by simp))
 refine qv (AB GJ) ?_
 refine qv (AL Av Bl) ?_
 refine qv (AB GJ) ?_
 refine qv (AL Av Bl) ?_
 refine Bo (f131 c.AX c.AX (by omega)) ?_
 refine qv Ai ?_
 refine qx A8 (fun A3A=>?_) (fun A3A=>?_)
 rotate_left
 ·exact absurd A3A ((by simp))
 refine qv (AB Jo) ?_
 refine qv (AL Ak Br) ?_
 refine qv (AB Jo) ?_
 refine qv (AL Ak Br) ?_
 refine qv Bv ?_
 refine qv Ai ?_
 refine qx A8 (fun XV=>?_) (fun XV=>?_)
 rotate_left
 ·exact absurd XV ((by simp))
 refine qv (AB Ki) ?_
 refine qv (AL Ak Br) ?_
 refine qv (AB Ki) ?_
 refine qv (AL Ak Br) ?_
 refine qv Bv ?_
 refine qv Ai ?_
 refine qx A8 (fun XU=>?_) (fun XU=>?_)
 rotate_left
 ·exact absurd XU ((by simp))
 refine qv (AB Lu) ?_
 refine qv (AL Ak Br) ?_
 refine qv (AB Lu) ?_
 refine qv (AL Ak Br) ?_
 refine qv Bv ?_
 refine qv Ai ?_
 refine qx A8 (fun oJ=>?_) (fun oJ=>?_)
 rotate_left
 ·exact absurd oJ ((by simp))
 refine qv (AB QG) ?_
 refine qv (AL Ak Br) ?_
 refine qv (AB QG) ?_
 refine qv (AL Ak Br) ?_
 refine qv Bv ?_
 refine qv Ai ?_
 refine qx A8 (fun A34=>?_) (fun A34=>?_)
 rotate_left
 ·exact absurd A34 ((by simp))
 refine qv (AB Ta) ?_
 refine qv (AL H8 YG) ?_
 refine qv (AB Ta) ?_
 refine qv (AL H8 YG) ?_
 refine qv (nQ ib4) ?_
 refine qv Ai ?_
 refine qv A9 ?_
 refine AP ?_
 exact x1 (hr:=(DX (by simp)))
set_option maxHeartbeats 4000000 in
set_option maxRecDepth 100000 in
theorem f49 (b:Bg) (h:Hp) (n:Int) (c:Cs) (F:Fn b h n) (ok:C8 b h n c) (rc:aD b h n c):Aw Tryz.prog 49 [.pt 100000 0 0] (Ba (pair b h n c 0 100004)) ⟨[.dv (.bool true)],Ba (pair b h n c 0 100004)⟩:=by
 have h5:=F.vh.n5
 have hd4:=F.bg.d4
 have Uz:=F.bg.n6
 have uM:=ok.hol.len
 have htl:=ok.Mj
 have hb1':∀ k,k <= c.AU.length -> 0 <= sm (Az c.AU) k /\ sm (Az c.AU) k <= 4 * k:=eO fun j hj=>by have:=ok.hol.bd j hj;omega
 have htb:∀ j,j < c.AX.length -> 0 <= Az c.AX j /\ Az c.AX j <= 1000:=fun j hj=>by have:=(ok.t30 F.vh).bd j (by omega);omega
 have hcu:=ok.cut
 have hcb:=ok.kF
 have hba:=ok.bal
 have hmo:=ok.Ei
 have hmb:=ok.jK
 have hl0:=ok.tK
 have hlb:=ok.ldb
 have hgr:0 <= Qt c:=by unfold Qt;omega
 have hwf:=ok.F3 n
 have ZG:=MU F.mn
 have h82:=f82 b c.AU
 rw [ok.bX,if_pos rfl] at h82
 have h88:=H.f88 h c.AX
 rw [H.MX (ok.chk F),H.MZ ok.calm] at h88
 have h46:=dB F ok rc
 have hfw:=Xb ok
 refine DC Tryz.func49 rfl rfl (by rw [Tryz.ntmps49];simp) fun cx hP hn hg=>?_
 rw [Tryz.ntmps49] at hn
 refine Bj ?_
 refine sg ?_
 refine qv A9 ?_
 refine AJ ?_
 refine sg ?_
 refine qv A8 ?_
 refine Yi XI ?_
 refine Cv (hb:=(by rfl)) (ht:=?_)
 refine AY ?_
 refine sg ?_
 refine qv A8 ?_
 refine Dx (f68 b h n c F ok) [] [(100000,100000),(100001,100001)] [100000,100001] ?_
 refine qp (Fj iQ) ?_
 refine qs (CK O5) ?_
 refine AJ ?_
 refine rd mixed ?_
 refine zv A8 ?_
 refine zv BR ?_
 refine zv (AB Oq) ?_
 refine zv (AQ D9 DW) ?_
 refine zv (AB FJ) ?_
 refine zv (AL Av Bl) ?_
 refine GA (R:=[]) (h82) ?_
 refine zv A8 ?_
 iterate 2 refine zv Bf ?_
 iterate 2 refine zv A9 ?_
 refine ⟨by rfl,?_⟩
 refine AJ ?_
 refine rd mixed ?_
 refine zv A8 ?_
 refine zv BR ?_
 refine zv (AB Rj) ?_
 refine zv (AQ Cq Cr) ?_
 refine zv (AB GJ) ?_
 refine zv (AL Av Bl) ?_
 refine GA (R:=[]) (h88) ?_
 refine zv A8 ?_
 iterate 2 refine zv Bf ?_
 iterate 2 refine zv A9 ?_
 refine ⟨by rfl,?_⟩
 refine AJ ?_
 refine sg ?_
 refine qv A8 ?_
 refine qv BP ?_
 refine qx A8 (fun oK=>?_) (fun oK=>?_)
 ·exact absurd oK ((by simp))
 refine qv A8 ?_
 refine qv BP ?_
 refine qv Ai ?_
 refine qx A8 (fun oJ=>?_) (fun oJ=>?_)
 ·exact absurd oJ ((by simp))
 refine qv A8 ?_
 refine qv Bn ?_
 refine qv Ai ?_
 refine qx A8 (fun V3=>?_) (fun V3=>?_)
 ·exact absurd V3 ((by simp))
 refine qv (AB Ki) ?_
 refine qv (AL Ak Br) ?_
 refine qv A8 ?_
 refine qv (AB QG) ?_
 refine qv (AL Ak Br) ?_
 refine qv Am ?_
 refine qv BP ?_
 refine qv Ai ?_
 refine qx A8 (fun NU=>?_) (fun NU=>?_)
 ·exact absurd NU ((by simp;omega))
 refine qv (AQ O5 aB) ?_
 refine Bo (f89 c (by omega) (by omega) (by omega) htb) ?_
 refine qv BQ ?_
 refine qv Ai ?_
 refine Cv (hb:=(by simp;omega)) (ht:=?_)
 refine AY ?_
 refine sg ?_
 refine qv A9 ?_
 refine AJ ?_
 refine sg ?_
 refine qv (AB FJ) ?_
 refine qv (AL Av Bl) ?_
 refine qv (BH CZ) ?_
 refine qv A8 ?_
 refine BD ?_
 refine Ag (ι:=Nat) (fun i=>⟨lk [(0,.pt 100000 0 0),(3,.pt 3 0 0),(8,.dv (i64 (sm (Az c.AU) i))),(64,.dv (ints (c.AU))),(65,.dv (i64 ((c.AU.length:Int)))),(66,.dv (i64 (i:Nat)))],AA [(100000,0,some (ZY b h n c 0 100001 100003)),(3,0,some ⟨stD c,0,98,0,false⟩),(100001,0,some (Cy c.orders 100004))]⟩) (fun i=>i <= c.AU.length) (fun i=>c.AU.length - i) 0 (by simp) (tl [(100000,100000),(3,3),(100001,100001)] (hF:=by simp [Ck,Aa,lk,AA,isLive,Ac,sm,CR]) (hM:=by simp [CV,Al,Aa,Ae,lk,AA,isLive,Ac,BK,BJ,Af,BI,BL,BO,BM,BN,sm,CR])) ?_
 intro i Aj
 refine sg ?_
 refine qv BQ ?_
 refine AJ ?_
 refine cd (fun hc2=>?_) (fun hc2=>?_)
 ·try simp at hc2
  refine AY ?_
  refine AJ ?_
  refine BD ?_
  refine sg ?_
  refine qv A8 ?_
  have hi:i < c.AU.length:=by omega
  have hga:=Ah hi
  have hbi:=ok.hol.bd i hi
  obtain ⟨k,hk⟩:∃ k:Nat,Az c.AU i=(k:Int):=⟨(Az c.AU i).toNat,by omega⟩
  have hkd:k <= b.dep:=by omega
  have hsb:=hb1' i (by omega)
  have hsn:sm (Az c.AU) (i+1)=sm (Az c.AU) i+(k:Int):=by simp only [sm];omega
  rw [hk] at hga
  first | refine qv (BA Ap Ak) ?_ | refine qv (Bd Ap Ak) ?_
  refine qv (Bb Ak Br) ?_
  iterate 2 refine qv A9 ?_
  refine sg ?_
  iterate 2 refine qv A8 ?_
  refine qv Am ?_
  refine qv A9 ?_
  refine sg ?_
  refine qv A8 ?_
  refine qv A9 ?_
  refine BD ?_
  refine Ag (ι:=Nat) (fun r=>⟨lk [(0,.pt 100000 0 0),(3,.pt 3 0 0),(8,.dv (i64 (sm (Az c.AU) i+(k:Int)))),(9,.dv (i64 (i:Nat))),(11,.dv (i64 (r:Nat))),(64,.dv (ints (c.AU))),(65,.dv (i64 ((c.AU.length:Int)))),(66,.dv (i64 (i:Nat)))],AA [(100000,0,some (ZY b h n c 0 100001 100003)),(3,0,some ⟨stD c,0,98,0,false⟩),(100001,0,some (Cy c.orders 100004))]⟩) (fun r=>k <= r /\ r <= b.dep) (fun r=>b.dep - r) k ⟨Nat.le_refl _,by omega⟩ (tl [(100000,100000),(3,3),(100001,100001)]) ?_
  intro r Es
  refine AJ ?_
  refine sg ?_
  iterate 2 refine qv A8 ?_
  refine qv BR ?_
  refine qv (AB Kl) ?_
  refine qv (AB GK) ?_
  refine qv (AL Ak Br) ?_
  refine qv BQ ?_
  refine cd (fun hc3=>?_) (fun hc3=>?_)
  ·try simp at hc3
   have hr3:r < b.dep:=by omega
   refine AY ?_
   refine AJ ?_
   refine BD ?_
   refine AJ ?_
   refine rd mixed ?_
   refine zv (AB Jo) ?_
   refine zv (AL Ak Br) ?_
   iterate 3 refine zv A8 ?_
   refine GA (R:=[100000]) (f90 b F.bg h n c 0 r i hr3 (by omega)) ?_ (ha:=(CG (Ou (by (first | (simp only [AA,reduceIte,Nat.reduceEqDiff]<;>rfl) | (simp [L8,AA]<;>rfl)))) (CG Bh (CG Bh EH))))
   refine zv (TF (ha:=by omega) (hb:=by have:=Qd F.bg (r:=r) (k:=i) (by omega) (by omega);omega)) ?_
   refine zv BP ?_
   refine ⟨by rfl,?_⟩
   refine Cv (hb:=(by simp [A04 ok hi hk Es.1])) (ht:=?_)
   refine AY ?_
   refine rg ?_
   refine qv A8 ?_
   refine qv Am ?_
   refine qv A9 ?_
   exact ⟨r+1,⟨by omega,by omega⟩,(by simp only;omega),(tl [(100000,100000),(3,3),(100001,100001)])⟩
  ·try simp at hc3
   refine Ad ?_
   refine rg ?_
   refine qv Am ?_
   refine qv A8 ?_
   exact ⟨i+1,hi,(by simp only;omega),(tl [(100000,100000),(3,3),(100001,100001)] (hF:=by simp [Ck,Aa,lk,AA,isLive,Ac,hsn,CR]) (hM:=by simp [CV,Al,Aa,Ae,lk,AA,isLive,Ac,BK,BJ,Af,BI,BL,BO,BM,BN,hsn,CR]))⟩
 ·try simp at hc2
  obtain rfl:i=c.AU.length:=by omega
  refine Ad ?_
  refine AJ ?_
  refine rd mixed ?_
  refine zv A8 ?_
  refine zv BR ?_
  refine zv (AB Oq) ?_
  refine zv (AQ D9 DW) ?_
  refine zv A8 ?_
  refine zv BR ?_
  refine zv (AB Rj) ?_
  refine zv (AQ Cq Cr) ?_
  refine zv A8 ?_
  refine zv BR ?_
  refine zv (AB Kl) ?_
  refine zv (AB Tf) ?_
  refine zv (AL Ak Br) ?_
  refine zv (AB Ls) ?_
  refine zv (AL Fv Hl) ?_
  refine GA (R:=[]) (f81 c.orders hfw) ?_
  refine PX (h46) [] [] [100002,100003] ?_
  refine zv A8 ?_
  iterate 3 refine zv Bf ?_
  iterate 3 refine zv A9 ?_
  refine ⟨by rfl,?_⟩
  refine AJ ?_
  refine rd mixed ?_
  refine zv A8 ?_
  refine zv (AB Lu) ?_
  refine zv (AL Ak Br) ?_
  refine zv Bv ?_
  refine zx A8 (fun xB=>?_) (fun xB=>?_)
  rotate_left
  ·exact absurd xB ((by simp;omega))
  refine zv A8 ?_
  refine zv Bv ?_
  refine zv Ai ?_
  refine zx A8 (fun ZJ=>?_) (fun ZJ=>?_)
  rotate_left
  ·exact absurd ZJ ((by simp))
  refine zv A8 ?_
  refine zv BR ?_
  refine zv (AB Ht) ?_
  iterate 2 refine zv (AQ O5 aB) ?_
  refine GA (R:=[100003]) (f91 c (by omega) (by omega)) ?_ (ha:=(CG (kE (CG Bh (CG Bh (CG Bh (CG Bh (CG Bh (CG Bh (CG Bh (CG Bh (CG (Hf (L:=c.orders) (by (first | (simp only [AA,reduceIte,Nat.reduceEqDiff]<;>rfl) | (simp [L8,AA]<;>rfl))) trivial rfl (fun _=>trivial)) EH)))))))))) (CG Bh EH)))
  refine zv Ai ?_
  refine zv A9 ?_
  refine ⟨by rfl,?_⟩
  refine AP ?_
  exact xg [(100000,100000),(100001,100001)]
end Go.Ab.Tryz
