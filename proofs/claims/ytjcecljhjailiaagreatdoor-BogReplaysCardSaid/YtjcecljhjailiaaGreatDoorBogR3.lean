/- The functions of the bog laws: cuttings, part 52. The walks are written by wip/gen/gw.py. -/
import Derived.Test.YtjcecljhjailiaaGreatDoorBogR2
import Derived.Test.YtjcecljhjailiaaGreatDoorBogG07
set_option linter.all false
namespace Go.Ab.Tryz
open Go Go.Ab Go.Proofs Go.Ab.Ci Go.Ab.Gx
open Go.Ab.Heap (Az Ah BZ)
open Go.Ab.Heap (Hp Et validate sm)
theorem uS {b:Bg} {h:Hp} {c:Cs} {k:Nat} (hk:k < b.worth.length) (h1:c.AX.length=h.ground.length) (hl:h.ground.length=b.worth.length):Qt (Kr b h c k)=Qt c+(sm (Az c.AX) c.AX.length+1 - sm (Az (Go.Ab.Heap.LJ h (H.bump c.AX k))) (Go.Ab.Heap.LJ h (H.bump c.AX k)).length):=by
 unfold Qt Kr
 simp only []
 omega
set_option maxHeartbeats 4000000 in
set_option maxRecDepth 100000 in
theorem f74 (b:Bg) (h:Hp) (n:Int) (c:Cs) (k:Nat) (F:Fn b h n) (ok:C8 b h n c) (hk:k < 1000):Aw Tryz.prog 74 [.pt 100000 0 0,.dv (i64 (k:Int))] (Ba (four b h n c 100004 100005 100006)) ⟨[.dv (i64 (Fp b c k))],Ba (four b h n (fB (Fp b c k) (Kr b h c k) c) 100004 (if Fp b c k=0 then 0 else 100005) 100006)⟩:=by
 have ZG:=rH F ok
 have uM:=ok.hol.len
 have hbd:=ok.hol.bd
 have Uz:=F.bg.n6
 have hd4:=F.bg.d4
 have hmo:=ok.jK
 have hcu:=ok.kF
 have hh0:=ok.bX
 have hl0:=ok.tK
 have hlb:=ok.ldb
 have htl:=ok.Mj
 have h5:=F.vh.n5
 have hol:=Vu (b:=b) (l:=c.AU) (by omega)
 have hts:=ok.rT
 have hbal:=ok.bal
 have hgr:Qt c=c.cut - c.loaded - sm (Az c.AX) c.AX.length:=rfl
 have htb:∀ j,j < c.AX.length -> -1000000 <= Az c.AX j /\ Az c.AX j <= 1000000:=fun j hj=>by have:=(ok.t30 F.vh).bd j (by omega);omega
 refine DC Tryz.func74 rfl rfl (by rw [Tryz.ntmps74];simp) fun cx hP hn hg=>?_
 rw [Tryz.ntmps74] at hn
 refine Bj ?_
 refine sg ?_
 refine qv A9 ?_
 refine AJ ?_
 refine sg ?_
 iterate 2 refine qv A8 ?_
 refine qv BR ?_
 refine qv (AB Kj) ?_
 refine qv (AL Av Bl) ?_
 refine qv (Cg CZ) ?_
 refine qv Df ?_
 refine cd (fun hc0=>?_) (fun hc0=>?_)
 ·try simp at hc0
  refine sg ?_
  refine qv A9 ?_
  refine AP ?_
  rw [show Fp b c k=4 from qE (by omega)]
  rw [Ew (by decide)]
  exact xg [(100000,100000),(100001,100001),(100002,100002),(100003,100003)]
 ·try simp at hc0
  refine AY ?_
  refine AJ ?_
  refine sg ?_
  refine qv A8 ?_
  refine qv BR ?_
  refine qv (AB Om) ?_
  refine qv (AL H8 YG) ?_
  refine cd (fun hc1=>?_) (fun hc1=>?_)
  ·try simp at hc1
   refine sg ?_
   refine qv A9 ?_
   refine AP ?_
   rw [show Fp b c k=8 from qD (by omega) (by simpa using hc1)]
   rw [Ew (by decide)]
   exact xg [(100000,100000),(100001,100001),(100002,100002),(100003,100003)]
  ·try simp at hc1
   refine AY ?_
   refine AJ ?_
   refine rd mixed ?_
   refine zv A8 ?_
   refine zv BR ?_
   refine zv (AB dA) ?_
   refine zv (AQ D9 DW) ?_
   refine zv A8 ?_
   refine zv BR ?_
   refine zv (AB Kj) ?_
   refine zv (AL Av Bl) ?_
   refine GA (R:=[100001]) (f117 b c.AU) ?_ (ha:=(CG Bh (CG (BS (L:=c.AU) (by (first | (simp only [AA,reduceIte,Nat.reduceEqDiff]<;>rfl) | (simp [L8,AA]<;>rfl))) trivial (by first | rfl | (simp;done)) rfl rfl (fun _=>trivial)) EH)))
   refine zv A8 ?_
   iterate 2 refine zv Bf ?_
   iterate 2 refine zv A9 ?_
   refine ⟨by rfl,?_⟩
   refine sg ?_
   refine qv A8 ?_
   refine qv BR ?_
   refine qv (AB Kj) ?_
   refine qv (AL Av Bl) ?_
   have hkt:k < c.AU.length:=by omega
   have hgt:=Ah hkt
   have hgb:=hbd k hkt
   obtain ⟨r,hr⟩:∃ r:Nat,Az c.AU k=r:=⟨(Az c.AU k).toNat,by omega⟩
   have hcon:=Yt ok (k:=k) (by omega)
   have hdr:=gy F ok (k:=k) (by omega)
   have hbl:=H.O8 (h:=h) (a:=H.bump c.AX k)
   obtain ⟨I1,hcalm⟩:=Go.Ab.Heap.LX F.vh (H.P8 (ok.t30 F.vh) (k:=k) (by rw [F.len];omega)).hpg
   have A2M:∀ j,j < (Go.Ab.Heap.LJ h (H.bump c.AX k)).length -> -1000000 <= Az (Go.Ab.Heap.LJ h (H.bump c.AX k)) j /\ Az (Go.Ab.Heap.LJ h (H.bump c.AX k)) j <= 1000000:=fun j hj=>by have h1:=I1.c0 j (by omega);have h2:=hcalm j (by omega);have h3:=F.vh.Z8 (i:=j) (by omega);omega
   rw [hr] at hgt hgb
   have hdrop:=H.f120 h c.AX (k:Int)
   rw [hdr] at hdrop
   simp only [] at hdrop
   have hgd:=uS (b:=b) (h:=h) (c:=c) (k:=k) (by omega) ok.Mj F.len
   refine qv A8 ?_
   refine qv (CB Ap Ak) ?_
   first | refine qv (EG Ak Br) ?_ | refine qv (AL Ak Br) ?_
   refine qv A9 ?_
   refine AJ ?_
   refine AJ ?_
   refine rd mixed ?_
   iterate 2 refine zv A8 ?_
   refine GA (R:=[32]) (f118 (JX b c.AU) (k:Int) (by omega)) ?_ (ha:=(CG (BS (L:=JX b c.AU) (by (first | (simp only [AA,reduceIte,Nat.reduceEqDiff]<;>rfl) | (simp [L8,AA]<;>rfl))) trivial (by first | rfl | (simp;done)) rfl rfl (fun _=>trivial)) (CG Bh EH)))
   refine zv Bn ?_
   refine zx A8 (fun R4=>?_) (fun R4=>?_)
   ·try simp at R4
    iterate 14 refine zk ?_
    refine zv Ai ?_
    refine ⟨by rfl,?_⟩
    refine Dw (hb:=by first | rfl | simp | simp_all) (ht:=?_)
    refine sg ?_
    refine qv A9 ?_
    refine AP ?_
    rw [show Fp b c k=6 from Xk (by omega) (by simpa using hc1) (by
     first
     | (rw [hab,Bool.or_true];done)
     | (rw [show Cz b c.AU k=false by rw [<- hcon];simpa using R4];rfl))]
    rw [Ew (by decide)]
    exact xg [(100000,100000),(100001,100001),(100002,100002),(100003,100003)]
   ·try simp at R4
    have hop:Cz b c.AU k=true:=by rw [<- hcon];simpa using R4
    refine zv A8 ?_
    refine zv Dj ?_
    refine zx A8 (fun V3=>?_) (fun V3=>?_)
    ·try simp at V3
     refine zv A8 ?_
     refine zv BR ?_
     refine zv (AB Lv) ?_
     refine zv (AL Ak Br) ?_
     iterate 2 refine zv A8 ?_
     refine zv FW ?_
     obtain ⟨q,hq⟩:∃ q,r=q+1:=⟨r - 1,by omega⟩
     rw [show ((r:Int) - 1)=((q:Nat):Int) by omega]
     have hsb:=SI F.bg (r:=q) (k:=k) (by omega) (by omega)
     refine zv A8 ?_
     refine GA (R:=[100000]) (f115 b h n q k (by omega) (by omega) (by omega)) ?_ (ha:=(CG (Rn (by (first | (simp only [AA,reduceIte,Nat.reduceEqDiff]<;>rfl) | (simp [L8,AA]<;>rfl)))) (CG Bh (CG Bh EH))))
     refine GA (R:=[]) (f116 c.F3 (q * b.worth.length+k) ZG (by omega)) ?_
     iterate 2 refine zv Ai ?_
     refine ⟨by rfl,?_⟩
     refine cd (fun hc2=>?_) (fun hc2=>?_)
     ·skip
      have hab:FZ b c k=true:=by rw [Rs (q:=q) (by rw [hr,hq])];simpa using hc2
      refine sg ?_
      refine qv A9 ?_
      refine AP ?_
      rw [show Fp b c k=6 from Xk (by omega) (by simpa using hc1) (by
       first
       | (rw [hab,Bool.or_true];done)
       | (rw [show Cz b c.AU k=false by rw [<- hcon];simpa using R4];rfl))]
      rw [Ew (by decide)]
      exact xg [(100000,100000),(100001,100001),(100002,100002),(100003,100003)]
     ·skip
      have hna:FZ b c k=false:=by rw [Rs (q:=q) (by rw [hr,hq])];simpa using hc2
      refine AY ?_
      refine sg ?_
      have hna:FZ b c k=false:=by first | assumption | exact Rt (by rw [hr];omega)
      refine qv A8 ?_
      refine qv BR ?_
      refine qv (AB Hr) ?_
      refine qv (AL Av Bl) ?_
      refine Bo (f119 c.AX (by omega) htb) ?_ (ha:=(CG (BS (L:=c.AX) (by (first | (simp only [AA,reduceIte,Nat.reduceEqDiff]<;>rfl) | (simp [L8,AA]<;>rfl))) trivial (by first | rfl | (simp;done)) rfl rfl (fun _=>trivial)) EH))
      refine qv A9 ?_
      refine AJ ?_
      refine rd mixed ?_
      refine zv A8 ?_
      refine zv BR ?_
      refine zv (AB ou) ?_
      refine zv (AQ Cq Cr) ?_
      refine zv A8 ?_
      refine zv BR ?_
      refine zv (AB Hr) ?_
      refine zv (AL Av Bl) ?_
      refine zv A8 ?_
      refine GA (R:=[100002]) (hdrop) ?_ (ha:=(CG Bh (CG (BS (L:=c.AX) (by (first | (simp only [AA,reduceIte,Nat.reduceEqDiff]<;>rfl) | (simp [L8,AA]<;>rfl))) trivial (by first | rfl | (simp;done)) rfl rfl (fun _=>trivial)) (CG Bh EH))))
      refine zv A8 ?_
      iterate 3 refine zv Bf ?_
      iterate 3 refine zv A9 ?_
      refine ⟨by rfl,?_⟩
      refine AJ ?_
      refine sg ?_
      refine qv A8 ?_
      refine qv BP ?_
      refine Cv (hb:=(by simp)) (ht:=?_)
      refine AY ?_
      refine sg ?_
      refine qv A8 ?_
      refine qv BR ?_
      refine qv (AB Kj) ?_
      refine qv (AL Av Bl) ?_
      refine qv A8 ?_
      refine qv (CB Ap Ak) ?_
      first | refine qv (EG Ak Br) ?_ | refine qv (AL Ak Br) ?_
      refine qv Am ?_
      refine qv (CB Ap Ak) ?_
      first | refine qs (Gp Ak) ?_ | refine qs (CK Ak) ?_
      refine sg ?_
      refine qv A8 ?_
      refine qv BR ?_
      refine qv (AB Td) ?_
      refine qv (AL Ak Br) ?_
      refine qv Am ?_
      refine qv BR ?_
      refine qv (AB Td) ?_
      refine qs (CK Ak) ?_
      refine AJ ?_
      refine rd mixed ?_
      refine zv A8 ?_
      refine zv BR ?_
      refine zv (AB Nf) ?_
      refine zv (AL Ak Br) ?_
      refine zv A8 ?_
      refine zv BR ?_
      refine zv (AB dA) ?_
      refine zv (AB Cb) ?_
      refine zv (AL DF Da) ?_
      have hcl:=F.bg.len k (by omega)
      have hrd:r < b.dep:=by have:=RY hop;omega
      have hgc:=Ef (b:=b) (i:=k) (by omega)
      have hge:=Ah (a:=b.col k) (i:=r) (by omega)
      have hcb:=MW F.bg (i:=k) (j:=r) (by omega) hrd
      refine zv A8 ?_
      first | refine zv (BA CO Av) ?_ | refine zv (Bd CO Av) ?_
      refine zv (Bb Av Bl) ?_
      refine zv A8 ?_
      first | refine zv (BA Ap Ak) ?_ | refine zv (Bd Ap Ak) ?_
      refine zv (Bb Ak Br) ?_
      refine zv Am ?_
      refine zv BR ?_
      refine zv (AB Nf) ?_
      refine zs (CK Ak) ?_
      refine ⟨by rfl,?_⟩
      refine sg ?_
      iterate 2 refine qv A8 ?_
      refine qv BR ?_
      refine qv (AB Hr) ?_
      refine qs (CK Av) ?_
      refine AJ ?_
      refine rd mixed ?_
      refine zv A8 ?_
      refine zv BR ?_
      refine zv (AB Tc) ?_
      refine zv (AL Ak Br) ?_
      refine zv A8 ?_
      refine zv Am ?_
      refine zv A8 ?_
      have hsb1:=Go.Ab.Heap.Dk (f:=Az (Go.Ab.Heap.LJ h (H.bump c.AX k))) (n:=(Go.Ab.Heap.LJ h (H.bump c.AX k)).length) (fun j hj=>I1.c0 j (by omega))
      have zA:=I1.sum F.vh
      have z8:sm (Az (H.bump c.AX k)) h.ground.length=sm (Az c.AX) h.ground.length+1:=by
       unfold H.bump
       rw [Go.Ab.Heap.LZ ok.Mj (by rw [F.len];omega)];omega
      rw [<- hbl] at zA z8
      have hsb4:sm (Az c.AX) (Go.Ab.Heap.LJ h (H.bump c.AX k)).length=sm (Az c.AX) c.AX.length:=by rw [hbl,htl]
      refine GA (R:=[77]) (f119 (Go.Ab.Heap.LJ h (H.bump c.AX k)) (by omega) A2M) ?_ (ha:=(CG (BS (L:=Go.Ab.Heap.LJ h (H.bump c.AX k)) (by (first | (simp only [AA,reduceIte,Nat.reduceEqDiff]<;>rfl) | (simp [L8,AA]<;>rfl))) trivial (by first | rfl | (simp;done)) rfl rfl (fun _=>trivial)) EH))
      refine zv FW ?_
      refine zv Am ?_
      refine zv BR ?_
      refine zv (AB Tc) ?_
      refine zs (CK Ak) ?_
      refine ⟨by rfl,?_⟩
      refine sg ?_
      refine qv A9 ?_
      refine AP ?_
      rw [show Fp b c k=0 from Xj (by omega) (by simpa using hc1) hop hna]
      rw [Jz,if_pos rfl]
      exact xg [(100000,100000),(100001,100001),(100002,77),(100003,100003)] (h2:=by simp [CV,Al,Ae,Aa,isLive,Ac,Ba,AA,Ch,BK,BJ,CR,Af,BI,BL,BO,BM,BN,Dv,hgd];simp [CV,Al,Ae,Aa,isLive,Ac,Ba,AA,Ch,BK,BJ,CR,Af,BI,BL,BO,BM,BN,Dv,Kr,KC,hr])
    ·try simp at V3
     iterate 10 refine zk ?_
     iterate 2 refine zv Ai ?_
     refine ⟨by rfl,?_⟩
     refine Cv (hb:=by first | rfl | simp | simp_all) (ht:=?_)
     refine AY ?_
     refine sg ?_
     have hna:FZ b c k=false:=by first | assumption | exact Rt (by rw [hr];omega)
     refine qv A8 ?_
     refine qv BR ?_
     refine qv (AB Hr) ?_
     refine qv (AL Av Bl) ?_
     refine Bo (f119 c.AX (by omega) htb) ?_ (ha:=(CG (BS (L:=c.AX) (by (first | (simp only [AA,reduceIte,Nat.reduceEqDiff]<;>rfl) | (simp [L8,AA]<;>rfl))) trivial (by first | rfl | (simp;done)) rfl rfl (fun _=>trivial)) EH))
     refine qv A9 ?_
     refine AJ ?_
     refine rd mixed ?_
     refine zv A8 ?_
     refine zv BR ?_
     refine zv (AB ou) ?_
     refine zv (AQ Cq Cr) ?_
     refine zv A8 ?_
     refine zv BR ?_
     refine zv (AB Hr) ?_
     refine zv (AL Av Bl) ?_
     refine zv A8 ?_
     refine GA (R:=[100002]) (hdrop) ?_ (ha:=(CG Bh (CG (BS (L:=c.AX) (by (first | (simp only [AA,reduceIte,Nat.reduceEqDiff]<;>rfl) | (simp [L8,AA]<;>rfl))) trivial (by first | rfl | (simp;done)) rfl rfl (fun _=>trivial)) (CG Bh EH))))
     refine zv A8 ?_
     iterate 3 refine zv Bf ?_
     iterate 3 refine zv A9 ?_
     refine ⟨by rfl,?_⟩
     refine AJ ?_
     refine sg ?_
     refine qv A8 ?_
     refine qv BP ?_
     refine Cv (hb:=(by simp)) (ht:=?_)
     refine AY ?_
     refine sg ?_
     refine qv A8 ?_
     refine qv BR ?_
     refine qv (AB Kj) ?_
     refine qv (AL Av Bl) ?_
     refine qv A8 ?_
     refine qv (CB Ap Ak) ?_
     first | refine qv (EG Ak Br) ?_ | refine qv (AL Ak Br) ?_
     refine qv Am ?_
     refine qv (CB Ap Ak) ?_
     first | refine qs (Gp Ak) ?_ | refine qs (CK Ak) ?_
     refine sg ?_
     refine qv A8 ?_
     refine qv BR ?_
     refine qv (AB Td) ?_
     refine qv (AL Ak Br) ?_
     refine qv Am ?_
     refine qv BR ?_
     refine qv (AB Td) ?_
     refine qs (CK Ak) ?_
     refine AJ ?_
     refine rd mixed ?_
     refine zv A8 ?_
     refine zv BR ?_
     refine zv (AB Nf) ?_
     refine zv (AL Ak Br) ?_
     refine zv A8 ?_
     refine zv BR ?_
     refine zv (AB dA) ?_
     refine zv (AB Cb) ?_
     refine zv (AL DF Da) ?_
     have hcl:=F.bg.len k (by omega)
     have hrd:r < b.dep:=by have:=RY hop;omega
     have hgc:=Ef (b:=b) (i:=k) (by omega)
     have hge:=Ah (a:=b.col k) (i:=r) (by omega)
     have hcb:=MW F.bg (i:=k) (j:=r) (by omega) hrd
     refine zv A8 ?_
     first | refine zv (BA CO Av) ?_ | refine zv (Bd CO Av) ?_
     refine zv (Bb Av Bl) ?_
     refine zv A8 ?_
     first | refine zv (BA Ap Ak) ?_ | refine zv (Bd Ap Ak) ?_
     refine zv (Bb Ak Br) ?_
     refine zv Am ?_
     refine zv BR ?_
     refine zv (AB Nf) ?_
     refine zs (CK Ak) ?_
     refine ⟨by rfl,?_⟩
     refine sg ?_
     iterate 2 refine qv A8 ?_
     refine qv BR ?_
     refine qv (AB Hr) ?_
     refine qs (CK Av) ?_
     refine AJ ?_
     refine rd mixed ?_
     refine zv A8 ?_
     refine zv BR ?_
     refine zv (AB Tc) ?_
     refine zv (AL Ak Br) ?_
     refine zv A8 ?_
     refine zv Am ?_
     refine zv A8 ?_
     have hsb1:=Go.Ab.Heap.Dk (f:=Az (Go.Ab.Heap.LJ h (H.bump c.AX k))) (n:=(Go.Ab.Heap.LJ h (H.bump c.AX k)).length) (fun j hj=>I1.c0 j (by omega))
     have zA:=I1.sum F.vh
     have z8:sm (Az (H.bump c.AX k)) h.ground.length=sm (Az c.AX) h.ground.length+1:=by
      unfold H.bump
      rw [Go.Ab.Heap.LZ ok.Mj (by rw [F.len];omega)];omega
     rw [<- hbl] at zA z8
     have hsb4:sm (Az c.AX) (Go.Ab.Heap.LJ h (H.bump c.AX k)).length=sm (Az c.AX) c.AX.length:=by rw [hbl,htl]
     refine GA (R:=[77]) (f119 (Go.Ab.Heap.LJ h (H.bump c.AX k)) (by omega) A2M) ?_ (ha:=(CG (BS (L:=Go.Ab.Heap.LJ h (H.bump c.AX k)) (by (first | (simp only [AA,reduceIte,Nat.reduceEqDiff]<;>rfl) | (simp [L8,AA]<;>rfl))) trivial (by first | rfl | (simp;done)) rfl rfl (fun _=>trivial)) EH))
     refine zv FW ?_
     refine zv Am ?_
     refine zv BR ?_
     refine zv (AB Tc) ?_
     refine zs (CK Ak) ?_
     refine ⟨by rfl,?_⟩
     refine sg ?_
     refine qv A9 ?_
     refine AP ?_
     rw [show Fp b c k=0 from Xj (by omega) (by simpa using hc1) hop hna]
     rw [Jz,if_pos rfl]
     exact xg [(100000,100000),(100001,100001),(100002,77),(100003,100003)] (h2:=by simp [CV,Al,Ae,Aa,isLive,Ac,Ba,AA,Ch,BK,BJ,CR,Af,BI,BL,BO,BM,BN,Dv,hgd];simp [CV,Al,Ae,Aa,isLive,Ac,Ba,AA,Ch,BK,BJ,CR,Af,BI,BL,BO,BM,BN,Dv,Kr,KC,hr])
end Go.Ab.Tryz
