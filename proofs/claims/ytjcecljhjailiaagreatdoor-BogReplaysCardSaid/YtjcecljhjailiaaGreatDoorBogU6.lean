/- The functions of the bog laws: cuttings, part 80. The walks are written by wip/gen/gw.py. -/
import Derived.Test.YtjcecljhjailiaaGreatDoorBogU2
import Derived.Test.YtjcecljhjailiaaGreatDoorBogT2
import Derived.Test.YtjcecljhjailiaaGreatDoorBogG07
set_option linter.all false
namespace Go.Ab.Tryz
open Go Go.Ab Go.Proofs Go.Ab.Ci Go.Ab.Gx
open Go.Ab.Heap (Az Ah BZ)
open Go.Ab.Heap (Hp Et validate sm)
theorem zi {b:Bg} {h:Hp} {n:Int} {c:Cs} (F:Fn b h n) (ok:C8 b h n c) (r:aD b h n c):Aw Tryz.prog 48 [.dv (KJ b),.dv (Et h),.dv (i64 n),.dv (CY (Co 0 c.orders))] (Ba []) ⟨[.pt 100000 0 0,.dv (i64 (c.orders.length:Int)),.dv (i64 0)],Ba (gU b h n c)⟩:=by
 have hr:=Y2 ok
 have h1:=pF b h n (Co 0 c.orders) (by have:=UY ok;omega) F.e (by rw [hr]) (by rw [hr];exact r.ok)
 rw [hr] at h1
 dsimp only at h1
 rw [show cR b h n c.orders c.orders.length=c by unfold cR;rw [List.take_length];exact r.eq] at h1
 exact h1
set_option maxHeartbeats 2000000 in
theorem uy (f:Fm) (hf:Er f) (L:List Tx) (hk:L.length <= 9223372036854775807) (s:Int) (hE:newE f.bog f.heaps f.need ≠ 0):AR Tryz.prog 11 [LK f,Gi L,i64 s] (.one (.dv (.bool true))):=by
 refine Bu Tryz.func11 rfl rfl (by rw [Tryz.ntmps11];simp) fun cx hP hn hg=>?_
 rw [Tryz.ntmps11] at hn
 rw [Bq,Bp]
 simp only [List.nil_append,List.append_nil,List.cons_append,BF,Nat.reduceAdd]
 refine sg ?_
 refine qp BX ?_
 refine qv A9 ?_
 refine AJ ?_
 refine sg ?_
 refine qv (AQ EN Eh) ?_
 refine Bo (f18 f hf.1 hf.2) ?_
 refine qx A8 (fun cB=>?_) (fun cB=>?_)
 ·try simp at cB
  iterate 2 refine qk ?_
  refine qv Ai ?_
  refine Dw (hb:=by first | rfl | simp | simp_all) (ht:=?_)
  refine sg ?_
  refine Bo (f20) ?_
  refine qv A9 ?_
  refine AP ?_
  exact x1 (hr:=(DX))
 ·try simp at cB
  refine qv A8 ?_
  refine Bo (f19 L hk) ?_
  refine qv Ai ?_
  refine cd (fun hc0=>?_) (fun hc0=>?_)
  ·skip
   refine sg ?_
   refine Bo (f20) ?_
   refine qv A9 ?_
   refine AP ?_
   exact x1 (hr:=(DX))
  ·skip
   obtain ⟨hF,NY,NW⟩:=E9 (by simpa using hc0)
   have Oh:(L.take 30).length <= 30:=by simp;omega
   have htx:∀ i (hi:i < (L.take 30).length),(L.take 30)[i].length < 2000000:=fun i hi=>by rw [List.getElem_take];exact hF.2 i (by simp at hi;omega)
   refine AY ?_
   refine sg ?_
   refine qv (AQ EN Eh) ?_
   refine Dx (Kn f hE) [] [] [] ?_
   refine qv A8 ?_
   iterate 3 refine qv Bf ?_
   iterate 3 refine qv A9 ?_
   refine AJ ?_
   refine sg ?_
   refine qv A8 ?_
   refine qv Bn ?_
   refine Dw (hb:=(by rfl)) (ht:=?_)
   refine sg ?_
   refine qv (AQ EN Eh) ?_
   refine Bo (f22 f hE) ?_
   refine qv A9 ?_
   refine AP ?_
   exact x1 (hr:=(DX))
set_option maxHeartbeats 8000000 in
set_option maxRecDepth 100000 in
theorem zu (f:Fm) (hf:Er f) (L:List Tx) (hk:L.length <= 9223372036854775807) (s:Int) (hE:newE f.bog f.heaps f.need=0):AR Tryz.prog 11 [LK f,Gi L,i64 s] (.one (.dv (.bool true))):=by
 have F:=Ga hE
 refine Bu Tryz.func11 rfl rfl (by rw [Tryz.ntmps11];simp) fun cx hP hn hg=>?_
 rw [Tryz.ntmps11] at hn
 rw [Bq,Bp]
 simp only [List.nil_append,List.append_nil,List.cons_append,BF,Nat.reduceAdd]
 refine sg ?_
 refine qp BX ?_
 refine qv A9 ?_
 refine AJ ?_
 refine sg ?_
 refine qv (AQ EN Eh) ?_
 refine Bo (f18 f hf.1 hf.2) ?_
 refine qx A8 (fun cB=>?_) (fun cB=>?_)
 ·try simp at cB
  iterate 2 refine qk ?_
  refine qv Ai ?_
  refine Dw (hb:=by first | rfl | simp | simp_all) (ht:=?_)
  refine sg ?_
  refine Bo (f20) ?_
  refine qv A9 ?_
  refine AP ?_
  exact x1 (hr:=(DX))
 ·try simp at cB
  refine qv A8 ?_
  refine Bo (f19 L hk) ?_
  refine qv Ai ?_
  refine cd (fun hc0=>?_) (fun hc0=>?_)
  ·skip
   refine sg ?_
   refine Bo (f20) ?_
   refine qv A9 ?_
   refine AP ?_
   exact x1 (hr:=(DX))
  ·skip
   obtain ⟨hF,NY,NW⟩:=E9 (by simpa using hc0)
   have Oh:(L.take 30).length <= 30:=by simp;omega
   have htx:∀ i (hi:i < (L.take 30).length),(L.take 30)[i].length < 2000000:=fun i hi=>by rw [List.getElem_take];exact hF.2 i (by simp at hi;omega)
   have nG:=qP f hE L
   have yG:=A0G f L
   have h43:=f43 f.bog f.heaps f.need (cs0 f.bog.worth.length) F (M7 F) (L.take 30) (by omega) htx
   rw [show Fb f.bog f.heaps f.need (cs0 f.bog.worth.length) (L.take 30)=cE f L from rfl] at h43
   refine AY ?_
   refine sg ?_
   refine qv (AQ EN Eh) ?_
   refine Dx (Km f hE) [] [] [100000,100001,100002,100003,100004,100005] ?_
   refine qv A8 ?_
   iterate 3 refine qv Bf ?_
   iterate 3 refine qv A9 ?_
   refine AJ ?_
   refine sg ?_
   refine qv A8 ?_
   refine qv Bn ?_
   refine Cv (hb:=(by rfl)) (ht:=?_)
   refine AY ?_
   refine AJ ?_
   refine sg ?_
   iterate 3 refine qv A8 ?_
   refine sQ (f23 L (by omega)) ?_
   refine Dx (h43) [] [(100000,100000),(100001,100001),(100002,100002),(100003,100003),(100004,100004),(100005,100005)] [100000,100001,100002,100003,100004,100005] ?_
   refine qv Bn ?_
   refine Cv (hb:=(by rfl)) (ht:=?_)
   refine AY ?_
   refine AJ ?_
   refine rd mixed ?_
   refine zv (AB E5) ?_
   refine zv (AQ D9 DW) ?_
   refine zv (AB EJ) ?_
   refine zv (AQ Cq Cr) ?_
   refine zv (AB FK) ?_
   refine zv (AL Ak Br) ?_
   refine zv A8 ?_
   refine PX (f34 f.bog f.heaps f.need (cE f L) F nG) [] [(100000,100000),(100001,100001)] [100000,100001] ?_
   refine PX (dB F nG yG) [] [] [100006,100007] ?_
   refine zv A8 ?_
   iterate 3 refine zv Bf ?_
   iterate 3 refine zv A9 ?_
   refine ⟨by rfl,?_⟩
   refine AJ ?_
   refine sg ?_
   refine qv A8 ?_
   refine qv BP ?_
   refine qx A8 (fun NU=>?_) (fun NU=>?_)
   ·exact absurd NU ((by simp))
   refine qv A8 ?_
   refine Yi XI ?_
   refine qv Ai ?_
   refine qx A8 (fun A31=>?_) (fun A31=>?_)
   ·exact absurd A31 ((by simp))
   iterate 2 refine qv A8 ?_
   refine qv BR ?_
   refine qv (AB Cw) ?_
   refine qv (AL Fv Hl) ?_
   first | refine qv (BH Dg) ?_ | refine qv (Cg Dg) ?_ | refine qv (TB Dg) ?_
   refine qv BP ?_
   refine qv Ai ?_
   refine qx A8 (fun R3=>?_) (fun R3=>?_)
   ·exact absurd R3 ((by simp))
   iterate 2 refine qv A8 ?_
   refine Dx (f31 f.bog f.heaps f.need (cE f L) F nG) [] [(100000,100006),(100001,100007),(100002,100002),(100003,100003),(100004,100004),(100005,100005)] [100006,100007,100002,100003,100004,100005] ?_
   refine qv Bn ?_
   refine qv Ai ?_
   refine Cv (hb:=(by simp)) (ht:=?_)
   refine AY ?_
   refine AJ ?_
   have hol:=nG.ord
   obtain ⟨z,hz⟩:∃ z:Nat,IntKind.u64.wrap s=(z:Int):=by
    have e:IntKind.u64.wrap s=s % 18446744073709551616:=by simp only [IntKind.wrap,IntKind.bits,IntKind.signed];rfl
    exact ⟨(s % 18446744073709551616).toNat,by rw [e];omega⟩
   have hw1:IntKind.u64.wrap (((cE f L).orders.length:Int)+1)=(((cE f L).orders.length+1:Nat):Int):=by rw [MG (by omega) (by omega)];omega
   obtain ⟨k,hk1⟩:∃ k:Nat,k=z % ((cE f L).orders.length+1):=⟨_,rfl⟩
   have hkl:k <= (cE f L).orders.length:=by have:=Nat.mod_lt z (show 0 < (cE f L).orders.length+1 by omega);omega
   have hk2:IntKind.i64.wrap (Int.tmod (z:Int) (((cE f L).orders.length+1:Nat):Int))=(k:Int):=by
    rw [Int.tmod_eq_emod_of_nonneg (by omega),<- Int.natCast_emod,<- hk1,wrap_i64 (by omega) (by omega)]
   obtain ⟨cP,okP,A20,hP2⟩:∃ c,C8 f.bog f.heaps f.need c /\ aD f.bog f.heaps f.need c /\ c.orders=(cE f L).orders.take k:=⟨_,Pn F _ (M7 F),(yG.part k).1,(yG.part k).2⟩
   have hPl:cP.orders.length=k:=by rw [hP2];simp;omega
   have hfP:=Xb okP
   refine rg ?_
   refine qv A8 ?_
   refine qv (Qp gG XG (hw:=by rw [hz])) ?_
   refine qv A8 ?_
   refine qv BR ?_
   refine qv (AB Cw) ?_
   refine qv (AL Fv Hl) ?_
   first | refine qv (BH Dg) ?_ | refine qv (Cg Dg) ?_ | refine qv (TB Dg) ?_
   refine qv Am ?_
   refine qv (Qp gG XG (hw:=by rw [hw1])) ?_
   refine qv Qn ?_
   refine qv (Qp XG gG (hw:=by rw [hk2])) ?_
   refine qv A9 ?_
   refine sg ?_
   refine qv A8 ?_
   refine qv BR ?_
   refine qv (AB Cw) ?_
   refine qv (AL Fv Hl) ?_
   refine Gv 100005 91 (x:=Gi (cE f L).orders) ?_ (hD:=Hf (L:=(cE f L).orders) (st:=1) (by simp only [AA,reduceIte,Nat.reduceEqDiff]<;>rfl) rfl (by simp) (fun _=>trivial))
   iterate 2 refine qv A8 ?_
   refine qv (yV (L':=cP.orders) CF DZ (hL:=by rw [hP2];simp)) ?_
   refine Bo (f47 cP.orders hfP) ?_
   refine qv A9 ?_
   refine sg ?_
   refine qv (AB E5) ?_
   refine qv (AQ D9 DW) ?_
   refine qv (AB EJ) ?_
   refine qv (AQ Cq Cr) ?_
   refine qv (AB FK) ?_
   refine qv (AL Ak Br) ?_
   refine qv A8 ?_
   refine Dx (dB F okP A20) [] [] [100008,100009] ?_
   refine qv A8 ?_
   iterate 3 refine qv Bf ?_
   iterate 3 refine qv A9 ?_
   refine sg ?_
   refine qv (AB E5) ?_
   refine qv (AQ D9 DW) ?_
   refine qv (AB EJ) ?_
   refine qv (AQ Cq Cr) ?_
   refine qv (AB FK) ?_
   refine qv (AL Ak Br) ?_
   refine qv A8 ?_
   refine Dx (zi F okP A20) [] [] [100010,100011,100012,100013] ?_
   refine qv A8 ?_
   iterate 3 refine qv Bf ?_
   iterate 3 refine qv A9 ?_
   refine sg ?_
   refine qv A8 ?_
   refine qv Bv ?_
   refine qx A8 (fun ZJ=>?_) (fun ZJ=>?_)
   rotate_left
   ·exact absurd ZJ ((by simp))
   refine qv A8 ?_
   refine qv Bv ?_
   refine qv Ai ?_
   refine qx A8 (fun x9=>?_) (fun x9=>?_)
   rotate_left
   ·exact absurd x9 ((by simp))
   refine qv A8 ?_
   refine mP XI ?_
   refine qv Ai ?_
   refine qx A8 (fun wz=>?_) (fun wz=>?_)
   rotate_left
   ·exact absurd wz ((by simp))
   iterate 2 refine qv A8 ?_
   refine qv Bv ?_
   refine qv Ai ?_
   refine qx A8 (fun wu=>?_) (fun wu=>?_)
   rotate_left
   ·exact absurd wu ((by simp [hPl]))
   iterate 2 refine qv A8 ?_
   refine Dx (f31 f.bog f.heaps f.need cP F okP) [] [(100000,100008),(100001,100009),(100002,100010),(100003,100011),(100004,100012),(100005,100013)] [100008,100009,100010,100011,100012,100013] ?_
   refine qv Ai ?_
   refine qx A8 (fun Mt=>?_) (fun Mt=>?_)
   rotate_left
   ·exact absurd Mt ((by simp))
   refine Bo (f20) ?_
   refine qv Ai ?_
   refine qv A9 ?_
   refine AP ?_
   exact x1 (hr:=(DX))
theorem f11 (f:Fm) (hf:Er f) (L:List Tx) (hk:L.length <= 9223372036854775807) (s:Int):AR Tryz.prog 11 [LK f,Gi L,i64 s] (.one (.dv (.bool true))):=by
 by_cases hE:newE f.bog f.heaps f.need=0
 ·exact zu f hf L hk s hE
 ·exact uy f hf L hk s hE
end Go.Ab.Tryz
