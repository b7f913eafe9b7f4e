/- BogCl, BogC2, BogC3. -/
import Derived.Test.YtjcecljhjailiaaGreatDoorBogG19
import Derived.Test.YtjcecljhjailiaaGreatDoorBogG07
set_option linter.all false
namespace Go.Ab.Tryz
open Go Go.Ab Go.Proofs Go.Ab.Ci
theorem f97x (l:List Int) (h:l.length < 2000000) (hl:l ≠ []):AR Tryz.prog 97 [ints l] (.one (rI l)):=by
 refine Bu Tryz.func97 rfl rfl (by rw [Tryz.ntmps97];simp) fun cx hP hn hg=>?_
 rw [Tryz.ntmps97] at hn
 rw [Bq,Bp]
 simp only [BF,Nat.reduceAdd]
 refine AJ ?_
 refine EA hg ?_
 refine EL hP hn (by decide) trivial (Ep (by simp only [St.look,St.ev,lk,AA,AV,Au,Ar,reduceIte,Nat.reduceAdd,Nat.reduceEqDiff,Nat.reduceMul];rfl)) ?_
 refine AJ ?_
 refine AJ ?_
 refine EA hg ?_
 refine EL hP hn (by decide) trivial (JC (by simp only [St.look,St.ev,lk,AA,AV,Au,Ar,reduceIte,Nat.reduceAdd,Nat.reduceEqDiff,Nat.reduceMul];rfl)) ?_
 refine EL hP hn (by decide) trivial (by simp only [AZ,EM,Qk,Jj,CZ,if_true,Option.map_some,St.look,St.ev,lk,AA,AV,Au,Ar,reduceIte,Nat.reduceAdd,Nat.reduceEqDiff,Nat.reduceMul];rw [if_neg (by simpa using hl)];rfl) ?_
 refine Gw (by simp only [St.look,St.ev,lk,AA,AV,Au,Ar,reduceIte,Nat.reduceAdd,Nat.reduceEqDiff,Nat.reduceMul];rfl) (fun hc0=>?_) (fun hc0=>?_)
 ·exact absurd hc0 (by simp)
 refine AY ?_
 refine AJ ?_
 refine EA hg ?_
 refine Zf hP hn (by decide) trivial (Gt (by simp only [List.map,St.look,St.ev,lk,AA,AV,Au,Ar,reduceIte,Nat.reduceAdd,Nat.reduceEqDiff,Nat.reduceMul];rfl) Ap Jq Ak rfl (by decide) (by decide) (by simp [F5,putCells,Cn,List.replicate];rfl)) rfl (by simp only [AA,reduceIte,Nat.reduceEqDiff];rfl) ?_
 refine EL hP hn (by decide) trivial (JC (by simp only [St.look,St.ev,lk,AA,AV,Au,Ar,reduceIte,Nat.reduceAdd,Nat.reduceEqDiff,Nat.reduceMul];rfl)) ?_
 first
 | refine U5 hP hn (by decide) trivial (Tp (by simp only [St.look,St.ev,lk,AA,AV,Au,Ar,reduceIte,Nat.reduceAdd,Nat.reduceEqDiff,Nat.reduceMul];rfl) (by simp only [St.look,St.ev,lk,AA,AV,Au,Ar,reduceIte,Nat.reduceAdd,Nat.reduceEqDiff,Nat.reduceMul];first | exact Iy | rfl | (simp [Ev,Du];rfl)) Ap Ap Jq Ak U7 (by first | omega | (simp;try omega)) (by first | omega | (simp;try omega)) rfl) (by simp only [AA,reduceIte,Nat.reduceEqDiff];rfl) ?_
 | refine Xp hP hn (by decide) trivial (Tn (by simp only [St.look,St.ev,lk,AA,AV,Au,Ar,reduceIte,Nat.reduceAdd,Nat.reduceEqDiff,Nat.reduceMul];rfl) (by simp only [St.look,St.ev,lk,AA,AV,Au,Ar,reduceIte,Nat.reduceAdd,Nat.reduceEqDiff,Nat.reduceMul];first | exact Iy | rfl | (simp [Ev,Du];rfl)) Ap Ap Jq Ak U7 (by rfl) (by rfl) (by rfl) (by first | omega | (simp;try omega)) (by first | omega | (simp;try omega)) (by first | omega | (simp;try omega)) rfl (by first | exact QA | exact TN | rfl)) (by simp only [AA,reduceIte,Nat.reduceEqDiff];rfl) (by simp only [AA,reduceIte,Nat.reduceEqDiff];rfl) rfl ?_
 refine EL hP hn (by decide) trivial (Ep (by simp only [St.look,St.ev,lk,AA,AV,Au,Ar,reduceIte,Nat.reduceAdd,Nat.reduceEqDiff,Nat.reduceMul];rfl)) ?_
 refine AP ?_
 exact Tm (.inr rfl) (by first | (simp only [lk,reduceIte,Nat.reduceEqDiff];done) | (simp only [lk,reduceIte,Nat.reduceEqDiff];rfl)) (Sc (by simp only [AA,reduceIte,Nat.reduceEqDiff];rfl) (by simp))
theorem f97n:AR Tryz.prog 97 [ints []] (.one (rI [])):=by
 refine Bu Tryz.func97 rfl rfl (by rw [Tryz.ntmps97];simp) fun cx hP hn hg=>?_
 rw [Tryz.ntmps97] at hn
 rw [Bq,Bp]
 simp only [BF,Nat.reduceAdd]
 refine Eu.split (t:=0) (by simp [lk]) fun b=>?_
 cases b
 ·skip
  refine AJ ?_
  refine EA hg ?_
  refine EL hP hn (by decide) trivial (Ep (by simp only [St.look,St.ev,lk,AA,AV,Au,Ar,reduceIte,Nat.reduceAdd,Nat.reduceEqDiff,Nat.reduceMul];rfl)) ?_
  refine AJ ?_
  refine AJ ?_
  refine EA hg ?_
  refine EL hP hn (by decide) trivial (JC (by simp only [St.look,St.ev,lk,AA,AV,Au,Ar,reduceIte,Nat.reduceAdd,Nat.reduceEqDiff,Nat.reduceMul];rfl)) ?_
  refine EL hP hn (by decide) trivial (by simp only [AZ,EM,Qk,Jj,CZ,if_true,Option.map_some,St.look,St.ev,lk,AA,AV,Au,Ar,reduceIte,Nat.reduceAdd,Nat.reduceEqDiff,Nat.reduceMul];rfl) ?_
  refine Gw (by simp only [St.look,St.ev,lk,AA,AV,Au,Ar,reduceIte,Nat.reduceAdd,Nat.reduceEqDiff,Nat.reduceMul];rfl) (fun hc0=>?_) (fun hc0=>?_)
  ·exact absurd hc0 (by simp)
  refine AY ?_
  refine AJ ?_
  refine EA hg ?_
  refine Zf hP hn (by decide) trivial (Gt (by simp only [List.map,St.look,St.ev,lk,AA,AV,Au,Ar,reduceIte,Nat.reduceAdd,Nat.reduceEqDiff,Nat.reduceMul];rfl) Ap Jq Ak rfl (by decide) (by decide) (by simp [F5,putCells,Cn,List.replicate];rfl)) rfl (by simp only [AA,reduceIte,Nat.reduceEqDiff];rfl) ?_
  refine EL hP hn (by decide) trivial (JC (by simp only [St.look,St.ev,lk,AA,AV,Au,Ar,reduceIte,Nat.reduceAdd,Nat.reduceEqDiff,Nat.reduceMul];rfl)) ?_
  first
  | refine U5 hP hn (by decide) trivial (Tp (by simp only [St.look,St.ev,lk,AA,AV,Au,Ar,reduceIte,Nat.reduceAdd,Nat.reduceEqDiff,Nat.reduceMul];rfl) (by simp only [St.look,St.ev,lk,AA,AV,Au,Ar,reduceIte,Nat.reduceAdd,Nat.reduceEqDiff,Nat.reduceMul];first | exact Iy | rfl | (simp [Ev,Du];rfl)) Ap Ap Jq Ak U7 (by first | omega | (simp;try omega)) (by first | omega | (simp;try omega)) rfl) (by simp only [AA,reduceIte,Nat.reduceEqDiff];rfl) ?_
  | refine Xp hP hn (by decide) trivial (Tn (by simp only [St.look,St.ev,lk,AA,AV,Au,Ar,reduceIte,Nat.reduceAdd,Nat.reduceEqDiff,Nat.reduceMul];rfl) (by simp only [St.look,St.ev,lk,AA,AV,Au,Ar,reduceIte,Nat.reduceAdd,Nat.reduceEqDiff,Nat.reduceMul];first | exact Iy | rfl | (simp [Ev,Du];rfl)) Ap Ap Jq Ak U7 (by rfl) (by rfl) (by rfl) (by first | omega | (simp;try omega)) (by first | omega | (simp;try omega)) (by first | omega | (simp;try omega)) rfl (by first | exact QA | exact TN | rfl)) (by simp only [AA,reduceIte,Nat.reduceEqDiff];rfl) (by simp only [AA,reduceIte,Nat.reduceEqDiff];rfl) rfl ?_
  refine EL hP hn (by decide) trivial (Ep (by simp only [St.look,St.ev,lk,AA,AV,Au,Ar,reduceIte,Nat.reduceAdd,Nat.reduceEqDiff,Nat.reduceMul];rfl)) ?_
  refine AP ?_
  exact Tm (.inr rfl) (by first | (simp only [lk,reduceIte,Nat.reduceEqDiff];done) | (simp only [lk,reduceIte,Nat.reduceEqDiff];rfl)) (Sc (by simp only [AA,reduceIte,Nat.reduceEqDiff];rfl) (by simp))
 ·skip
  refine AJ ?_
  refine EA hg ?_
  refine EL hP hn (by decide) trivial (Ep (by simp only [St.look,St.ev,lk,AA,AV,Au,Ar,reduceIte,Nat.reduceAdd,Nat.reduceEqDiff,Nat.reduceMul];rfl)) ?_
  refine AJ ?_
  refine AJ ?_
  refine EA hg ?_
  refine EL hP hn (by decide) trivial (JC (by simp only [St.look,St.ev,lk,AA,AV,Au,Ar,reduceIte,Nat.reduceAdd,Nat.reduceEqDiff,Nat.reduceMul];rfl)) ?_
  refine EL hP hn (by decide) trivial (by simp only [AZ,EM,Qk,Jj,CZ,if_true,Option.map_some,St.look,St.ev,lk,AA,AV,Au,Ar,reduceIte,Nat.reduceAdd,Nat.reduceEqDiff,Nat.reduceMul];rfl) ?_
  refine Gw (by simp only [St.look,St.ev,lk,AA,AV,Au,Ar,reduceIte,Nat.reduceAdd,Nat.reduceEqDiff,Nat.reduceMul];rfl) (fun hc0=>?_) (fun hc0=>?_)
  rotate_left
  ·exact absurd hc0 (by simp)
  refine AJ ?_
  refine EA hg ?_
  refine EL hP hn (by decide) trivial (Ep (by simp only [St.look,St.ev,lk,AA,AV,Au,Ar,reduceIte,Nat.reduceAdd,Nat.reduceEqDiff,Nat.reduceMul];rfl)) ?_
  refine AP ?_
  exact Tm (.inr rfl) (by first | (simp only [lk,reduceIte,Nat.reduceEqDiff];done) | (simp only [lk,reduceIte,Nat.reduceEqDiff];rfl)) Vl
theorem f97 (l:List Int) (h:l.length < 2000000):AR Tryz.prog 97 [ints l] (.one (rI l)):=by
 by_cases hl:l=[]
 ·subst hl;exact f97n
 ·exact f97x l h hl
end Go.Ab.Tryz
namespace Go.Ab.Tryz
open Go Go.Ab Go.Proofs Go.Ab.Ci
open Go.Ab.Heap (Az Ah BZ)
theorem gN {l:List Int} {c:Nat}:gap l c=true ↔ Az l c - Az l (c - 1) <= 1 /\ Az l (c - 1) - Az l c <= 1:=by
 unfold gap;rw [DY];omega
theorem fG {l:List Int} {c:Nat} (h:¬ (Az l c - Az l (c - 1) <= 1 /\ Az l (c - 1) - Az l c <= 1)):gap l c=false:=by
 cases e:gap l c with
 | false=>rfl
 | true=>exact absurd (gN.1 e) h
theorem iB {b:Bg} {i:Nat} {j:Nat} (hj:j < (b.col i).length) (h:¬ (-50 <= Az (b.col i) j /\ Az (b.col i) j <= 50)):Gb b.dep (b.col i)=false:=by
 have:(b.col i).any (fun w=>!CX w (-50) 50)=true:=List.any_eq_true.2 ⟨_,List.mem_of_getElem? (Ah hj),by
  simp only [Bool.not_eq_true']
  cases e:CX (Az (b.col i) j) (-50) 50 with
  | false=>rfl
  | true=>exact absurd (DY.1 e) h⟩
 unfold Gb;rw [this];simp
theorem vW {b:Bg} {i:Nat} (h:(b.col i).length ≠ b.dep):Gb b.dep (b.col i)=false:=by
 unfold Gb
 have:((b.col i).length == b.dep)=false:=by simpa using h
 rw [this];rfl
theorem A0D {b:Bg} {i:Nat} (h:(b.col i).length=b.dep) (h2:∀ j,j < (b.col i).length -> -50 <= Az (b.col i) j /\ Az (b.col i) j <= 50):Gb b.dep (b.col i)=true:=by
 unfold Gb
 simp only [Bool.and_eq_true,beq_iff_eq,Bool.not_eq_true',List.any_eq_false,Bool.not_eq_false]
 refine ⟨h,fun x hx=>?_⟩
 obtain ⟨j,hj,rfl⟩:=List.getElem_of_mem hx
 have h3:=h2 j hj
 have h4:=Ah hj
 rw [List.getElem?_eq_getElem hj] at h4
 rw [Option.some.inj h4]
 exact DY.2 h3
theorem Z4 {b:Bg} {l:List Int} {i:Nat} (hi:i < l.length) (h:¬ (0 <= Az l i /\ Az l i <= b.dep)):He b l=1:=by
 refine TG (List.any_eq_true.2 ⟨_,List.mem_of_getElem? (Ah hi),?_⟩)
 simp only [Bool.not_eq_true']
 cases e:CX (Az l i) 0 (b.dep:Int) with
 | false=>rfl
 | true=>exact absurd (DY.1 e) h
theorem jN {b:Bg} {l:List Int} (h0:PW b) (h:l.length=b.worth.length) (h2:∀ i,i < l.length -> 0 <= Az l i /\ Az l i <= b.dep):He b l=0:=(Nu.mk h0 h h2).v
theorem iD {b:Bg} (h:¬ (1 <= b.worth.length /\ b.worth.length <= 6)):Nr b=1:=Y4 (by
 cases e:CX (b.worth.length:Int) 1 6 with
 | false=>rfl
 | true=>exact absurd (DY.1 e) (by omega))
theorem iF {b:Bg} (h:¬ (1 <= b.dep /\ b.dep <= 4)):Nr b=1:=Y3 (by
 cases e:CX (b.dep:Int) 1 4 with
 | false=>rfl
 | true=>exact absurd (DY.1 e) (by omega))
def bV (x:Int) (l:List Int):Int:=if l.contains x then (l.findIdx (fun q=>q == x):Int) else -1
theorem gJ {x:Int} {l:List Int} (h:∀ j (hj:j < l.length),l[j] ≠ x):bV x l=-1:=by
 unfold bV
 rw [if_neg]
 rw [List.contains_iff_mem]
 intro hx
 obtain ⟨j,hj,e⟩:=List.getElem_of_mem hx
 exact h j hj e
theorem gK {x:Int} {l:List Int} {i:Nat} (hi:i < l.length) (h:l[i]=x) (hb:∀ j (hj:j < l.length),j < i -> l[j] ≠ x):bV x l=i:=by
 unfold bV
 have hc:l.contains x=true:=by rw [List.contains_iff_mem];exact h ▸ List.getElem_mem hi
 rw [if_pos hc]
 congr 1
 rw [List.findIdx_eq hi]
 exact ⟨by simp [h],fun j hj=>by simpa using hb j (by omega) hj⟩
theorem XL {x:Int} {l:List Int}:decide (0 <= bV x l)=l.contains x:=by
 unfold bV
 cases l.contains x<;>simp<;>omega
theorem pW {a b:List Int} (hl:a.length=b.length) (h:∀ j,j < a.length -> Az a j=Az b j):a=b:=List.ext_getElem hl fun j h1 h2=>by
 have:=h j h1
 have e1:=Ah h1
 have e2:=Ah h2
 rw [List.getElem?_eq_getElem h1] at e1
 rw [List.getElem?_eq_getElem h2] at e2
 rw [Option.some.inj e1,Option.some.inj e2,this]
set_option maxHeartbeats 1000000 in
theorem f77 (b:Bg):AR Tryz.prog 77 [KJ b] (.one (.dv (i64 (Nr b)))):=by
 refine Bu Tryz.func77 rfl rfl (by rw [Tryz.ntmps77];simp) fun cx hP hn hg=>?_
 rw [Tryz.ntmps77] at hn
 rw [Bq,Bp]
 simp only [List.nil_append,List.append_nil,List.cons_append,BF,Nat.reduceAdd]
 refine sg ?_
 refine qp BX ?_
 refine qv A9 ?_
 refine sg ?_
 refine qv (AB Cb) ?_
 refine qv (AL DF Da) ?_
 refine qv (BH Ka) ?_
 refine qv A9 ?_
 refine AJ ?_
 refine sg ?_
 refine qv A8 ?_
 refine qv BQ ?_
 refine qx A8 (fun GI=>?_) (fun GI=>?_)
 ·try simp at GI
  iterate 2 refine qk ?_
  refine qv Ai ?_
  refine qv A8 ?_
  iterate 6 refine qk ?_
  refine qv Ai ?_
  refine qv A8 ?_
  iterate 6 refine qk ?_
  refine qv Ai ?_
  refine Dw (hb:=by first | rfl | simp | simp_all) (ht:=?_)
  refine sg ?_
  refine qv A9 ?_
  refine AP ?_
  exact x1 (hr:=(CW (by first | rw [iD (by omega)] | rw [iF (by unfold Bg.dep;omega)])))
 ·try simp at GI
  refine qv A8 ?_
  refine qv Dj ?_
  refine qv Ai ?_
  refine qx A8 (fun V5=>?_) (fun V5=>?_)
  ·try simp at V5
   iterate 6 refine qk ?_
   refine qv Ai ?_
   refine qv A8 ?_
   iterate 6 refine qk ?_
   refine qv Ai ?_
   refine Dw (hb:=by first | rfl | simp | simp_all) (ht:=?_)
   refine sg ?_
   refine qv A9 ?_
   refine AP ?_
   exact x1 (hr:=(CW (by first | rw [iD (by omega)] | rw [iF (by unfold Bg.dep;omega)])))
  ·try simp at V5
   have h01:0 < b.worth.length:=by omega
   have hg0:=Ef h01
   refine qv (AB Cb) ?_
   refine qv (AL DF Da) ?_
   first | refine qv (BA CO Av) ?_ | refine qv (Bd CO Av) ?_
   refine qv (Bb Av Bl) ?_
   refine qv (BH CZ) ?_
   refine qv BQ ?_
   refine qv Ai ?_
   refine qx A8 (fun bq=>?_) (fun bq=>?_)
   ·try simp at bq
    iterate 6 refine qk ?_
    refine qv Ai ?_
    refine Dw (hb:=by first | rfl | simp | simp_all) (ht:=?_)
    refine sg ?_
    refine qv A9 ?_
    refine AP ?_
    exact x1 (hr:=(CW (by first | rw [iD (by omega)] | rw [iF (by unfold Bg.dep;omega)])))
   ·try simp at bq
    refine qv (AB Cb) ?_
    refine qv (AL DF Da) ?_
    first | refine qv (BA CO Av) ?_ | refine qv (Bd CO Av) ?_
    refine qv (Bb Av Bl) ?_
    refine qv (BH CZ) ?_
    refine qv Dj ?_
    refine qv Ai ?_
    refine cd (fun hc0=>?_) (fun hc0=>?_)
    ·try simp at hc0
     refine sg ?_
     refine qv A9 ?_
     refine AP ?_
     exact x1 (hr:=(CW (by first | rw [iD (by omega)] | rw [iF (by unfold Bg.dep;omega)])))
    ·try simp at hc0
     have h6:CX (b.worth.length:Int) 1 6=true:=DY.2 (by omega)
     have hd:CX (b.dep:Int) 1 4=true:=DY.2 (by unfold Bg.dep;omega)
     refine AY ?_
     refine AJ ?_
     refine sg ?_
     refine qv A9 ?_
     refine BD ?_
     refine Ag (ι:=Nat) (fun i=>⟨lk [(1,.pt 1 0 0),(3,.dv (i64 ((b.worth.length:Int)))),(4,.dv (i64 (i:Nat)))],AA [(1,0,some ⟨[.dv (.list ((b.worth).map ints))],0,24,0,false⟩)]⟩) (fun i=>i <= b.worth.length /\ ∀ j,j < i -> Gb b.dep (b.col j)=true) (fun i=>b.worth.length - i) 0 (by simp) (tl [(1,1)]) ?_
     intro i Aj
     refine AJ ?_
     refine sg ?_
     iterate 2 refine qv A8 ?_
     refine qv BQ ?_
     refine cd (fun hc1=>?_) (fun hc1=>?_)
     ·try simp at hc1
      refine AY ?_
      refine AJ ?_
      refine BD ?_
      refine AJ ?_
      refine AJ ?_
      have hi:i < b.worth.length:=by omega
      have hgc:=Ef hi
      refine rd mixed ?_
      refine zv (AB Cb) ?_
      refine zv (AL DF Da) ?_
      refine zv A8 ?_
      first | refine zv (BA CO Av) ?_ | refine zv (Bd CO Av) ?_
      refine zv (Bb Av Bl) ?_
      refine zv (BH CZ) ?_
      refine zv (AB Cb) ?_
      refine zv (AL DF Da) ?_
      first | refine zv (BA CO Av) ?_ | refine zv (Bd CO Av) ?_
      refine zv (Bb Av Bl) ?_
      refine zv (BH CZ) ?_
      refine zv BP ?_
      refine ⟨by rfl,?_⟩
      refine cd (fun hc2=>?_) (fun hc2=>?_)
      ·try simp at hc2
       refine sg ?_
       refine qv A9 ?_
       refine AP ?_
       exact x1 (hr:=(CW (by rw [PL hi (vW (by unfold Bg.dep;omega))])))
      ·try simp at hc2
       have hle:(b.col i).length=b.dep:=by unfold Bg.dep;omega
       refine AY ?_
       refine sg ?_
       refine qv A9 ?_
       refine BD ?_
       refine Ag (ι:=Nat) (fun k=>⟨lk [(1,.pt 1 0 0),(3,.dv (i64 ((b.worth.length:Int)))),(4,.dv (i64 (i:Nat))),(5,.dv (i64 (k:Nat)))],AA [(1,0,some ⟨[.dv (.list ((b.worth).map ints))],0,24,0,false⟩)]⟩) (fun k=>k <= (b.col i).length /\ ∀ q,q < k -> -50 <= Az (b.col i) q /\ Az (b.col i) q <= 50) (fun k=>(b.col i).length - k) 0 (by simp) (tl [(1,1)]) ?_
       intro k Es
       refine AJ ?_
       refine sg ?_
       refine qv A8 ?_
       refine qv (AB Cb) ?_
       refine qv (AL DF Da) ?_
       refine qv A8 ?_
       first | refine qv (BA CO Av) ?_ | refine qv (Bd CO Av) ?_
       refine qv (Bb Av Bl) ?_
       refine qv (BH CZ) ?_
       refine qv BQ ?_
       refine cd (fun hc3=>?_) (fun hc3=>?_)
       ·try simp at hc3
        refine AY ?_
        refine AJ ?_
        refine BD ?_
        refine sg ?_
        have hk:k < (b.col i).length:=by omega
        have hgk:=Ah hk
        refine qv (AB Cb) ?_
        refine qv (AL DF Da) ?_
        refine qv A8 ?_
        first | refine qv (BA CO Av) ?_ | refine qv (Bd CO Av) ?_
        refine qv (Bb Av Bl) ?_
        refine qv A8 ?_
        first | refine qv (BA Ap Ak) ?_ | refine qv (Bd Ap Ak) ?_
        refine qv (Bb Ak Br) ?_
        refine qv Dj ?_
        refine qx A8 (fun IQ=>?_) (fun IQ=>?_)
        ·try simp at IQ
         iterate 9 refine qk ?_
         refine qv Ai ?_
         refine Dw (hb:=by first | rfl | simp | simp_all) (ht:=?_)
         refine sg ?_
         refine qv A9 ?_
         refine AP ?_
         exact x1 (hr:=(CW (by rw [PL hi (iB hk (by omega))])))
        ·try simp at IQ
         refine qv (AB Cb) ?_
         refine qv (AL DF Da) ?_
         refine qv A8 ?_
         first | refine qv (BA CO Av) ?_ | refine qv (Bd CO Av) ?_
         refine qv (Bb Av Bl) ?_
         refine qv A8 ?_
         first | refine qv (BA Ap Ak) ?_ | refine qv (Bd Ap Ak) ?_
         refine qv (Bb Ak Br) ?_
         refine qv BQ ?_
         refine qv Ai ?_
         refine cd (fun hc4=>?_) (fun hc4=>?_)
         ·try simp at hc4
          refine sg ?_
          refine qv A9 ?_
          refine AP ?_
          exact x1 (hr:=(CW (by rw [PL hi (iB hk (by omega))])))
         ·try simp at hc4
          refine AY ?_
          refine rg ?_
          refine qv A8 ?_
          refine qv Am ?_
          refine qv A9 ?_
          refine ⟨k+1,?_,(by simp only;omega),(tl [(1,1)])⟩
          refine ⟨by omega,fun q hq=>?_⟩
          rcases Nat.lt_or_ge q k with h1 | h1
          ·exact Es.2 q h1
          ·obtain rfl:q=k:=by omega
           omega
       ·try simp at hc3
        refine Ad ?_
        refine rg ?_
        refine qv A8 ?_
        refine qv Am ?_
        refine qv A9 ?_
        refine ⟨i+1,?_,(by simp only;omega),(tl [(1,1)])⟩
        refine ⟨by omega,fun j hj=>?_⟩
        rcases Nat.lt_or_ge j i with h1 | h1
        ·exact Aj.2 j h1
        ·obtain rfl:j=i:=by omega
         exact A0D hle fun q hq=>Es.2 q (by omega)
     ·try simp at hc1
      refine Ad ?_
      refine sg ?_
      refine qv A9 ?_
      refine AP ?_
      exact x1 (hr:=(CW (by rw [iE h6 hd fun j hj=>Aj.2 j (by omega)])))
theorem f110 (b:Bg) (l:List Int):AR Tryz.prog 110 [KJ b,ints l] (.one (.dv (i64 (He b l)))):=by
 refine Bu Tryz.func110 rfl rfl (by rw [Tryz.ntmps110];simp) fun cx hP hn hg=>?_
 rw [Tryz.ntmps110] at hn
 rw [Bq,Bp]
 simp only [List.nil_append,List.append_nil,List.cons_append,BF,Nat.reduceAdd]
 refine sg ?_
 refine qp BX ?_
 refine qv A9 ?_
 refine sg ?_
 refine qv (AQ D9 DW) ?_
 refine Bo (f77 b) ?_
 refine qv A9 ?_
 refine AJ ?_
 refine sg ?_
 refine qv A8 ?_
 refine qv BP ?_
 refine cd (fun hc0=>?_) (fun hc0=>?_)
 ·skip
  have hv0:¬ Nr b=0:=by simpa using hc0
  refine sg ?_
  refine qv A8 ?_
  refine qv A9 ?_
  refine AP ?_
  exact x1 (hr:=(CW (by rw [(Ob (l:=l) hv0).1,(Ob (l:=l) hv0).2])))
 ·skip
  have hv0:Nr b=0:=by simpa using hc0
  have ok:=UZ hv0
  have hn0:=ok.n0
  have Uz:=ok.n6
  refine AY ?_
  refine AJ ?_
  refine sg ?_
  refine qv A8 ?_
  refine qv (BH CZ) ?_
  refine qv (AB Cb) ?_
  refine qv (AL DF Da) ?_
  refine qv (BH Ka) ?_
  refine qv BP ?_
  refine cd (fun hc1=>?_) (fun hc1=>?_)
  ·try simp at hc1
   refine sg ?_
   refine qv A9 ?_
   refine AP ?_
   exact x1 (hr:=(CW (by rw [TH (by intro e;exact hc1 (by exact_mod_cast e))])))
  ·try simp at hc1
   have hle:l.length=b.worth.length:=by exact_mod_cast hc1
   refine AY ?_
   refine AJ ?_
   refine sg ?_
   refine qv A9 ?_
   refine BD ?_
   refine Ag (ι:=Nat) (fun i=>⟨lk [(1,.dv (ints (l))),(2,.pt 2 0 0),(6,.dv (i64 (i:Nat)))],AA [(2,0,some ⟨[.dv (.list ((b.worth).map ints))],0,24,0,false⟩)]⟩) (fun i=>i <= l.length /\ ∀ j,j < i -> 0 <= Az l j /\ Az l j <= b.dep) (fun i=>l.length - i) 0 (by simp) (tl [(2,2)]) ?_
   intro i Aj
   refine AJ ?_
   refine sg ?_
   iterate 2 refine qv A8 ?_
   refine qv (BH CZ) ?_
   refine qv BQ ?_
   refine cd (fun hc2=>?_) (fun hc2=>?_)
   ·try simp at hc2
    refine AY ?_
    refine AJ ?_
    refine BD ?_
    refine AJ ?_
    have hi:i < l.length:=by omega
    have hgi:=Ah hi
    refine rd mixed ?_
    iterate 2 refine zv A8 ?_
    first | refine zv (BA Ap Ak) ?_ | refine zv (Bd Ap Ak) ?_
    refine zv (Bb Ak Br) ?_
    refine zv BQ ?_
    refine zx A8 (fun zK=>?_) (fun zK=>?_)
    ·try simp at zK
     iterate 7 refine zk ?_
     refine zv Ai ?_
     refine ⟨by rfl,?_⟩
     refine Dw (hb:=by first | rfl | simp | simp_all) (ht:=?_)
     refine sg ?_
     refine qv A9 ?_
     refine AP ?_
     exact x1 (hr:=(CW (by rw [Z4 hi (by omega)])))
    ·try simp at zK
     iterate 2 refine zv A8 ?_
     first | refine zv (BA Ap Ak) ?_ | refine zv (Bd Ap Ak) ?_
     refine zv (Bb Ak Br) ?_
     refine zv (AQ D9 DW) ?_
     refine GA (R:=[]) (f156 b hn0) ?_
     refine zv Dj ?_
     refine zv Ai ?_
     refine ⟨by rfl,?_⟩
     refine cd (fun hc3=>?_) (fun hc3=>?_)
     ·try simp at hc3
      refine sg ?_
      refine qv A9 ?_
      refine AP ?_
      exact x1 (hr:=(CW (by rw [Z4 hi (by omega)])))
     ·try simp at hc3
      refine AY ?_
      refine rg ?_
      refine qv A8 ?_
      refine qv Am ?_
      refine qv A9 ?_
      refine ⟨i+1,?_,(by simp only;omega),(tl [(2,2)])⟩
      refine ⟨by omega,fun j hj=>?_⟩
      rcases Nat.lt_or_ge j i with h1 | h1
      ·exact Aj.2 j h1
      ·obtain rfl:j=i:=by omega
       omega
   ·try simp at hc2
    refine Ad ?_
    refine sg ?_
    refine qv A9 ?_
    refine AP ?_
    exact x1 (hr:=(CW (by rw [jN ok hle fun j hj=>Aj.2 j (by omega)])))
theorem f111 (l:List Int) (hl:l.length < 2000000) (hb:∀ i,i < l.length -> 0 <= Az l i /\ Az l i <= 5):AR Tryz.prog 111 [ints l] (.one (.dv (.bool (IL l)))):=by
 refine Bu Tryz.func111 rfl rfl (by rw [Tryz.ntmps111];simp) fun cx hP hn hg=>?_
 rw [Tryz.ntmps111] at hn
 rw [Bq,Bp]
 simp only [List.nil_append,List.append_nil,List.cons_append,BF,Nat.reduceAdd]
 refine sg ?_
 refine qv A9 ?_
 refine AJ ?_
 refine sg ?_
 refine qv A9 ?_
 refine BD ?_
 refine Ag (ι:=Nat) (fun c=>⟨lk [(0,.dv (ints (l))),(3,.dv (i64 (c:Nat)))],AA []⟩) (fun c=>(1 <= c) /\ (∀ j,1 <= j -> j < l.length -> j < c -> gap l j=true)) (fun c=>l.length - c) 1 ⟨Nat.le_refl _,fun j h1 h2 h3=>absurd h3 (by omega)⟩ (tl []) ?_
 intro c Aj
 refine AJ ?_
 refine sg ?_
 iterate 2 refine qv A8 ?_
 refine qv (BH CZ) ?_
 refine qv BQ ?_
 refine cd (fun hc0=>?_) (fun hc0=>?_)
 ·try simp at hc0
  refine AY ?_
  refine AJ ?_
  refine BD ?_
  refine AJ ?_
  have hc:c < l.length:=by omega
  have hgc:=Ah hc
  have hgd:=Ah (a:=l) (i:=c - 1) (by omega)
  have hgp:=oW hb Aj.1 hc
  have hcast:((c:Nat):Int) - 1=((c - 1:Nat):Int):=by omega
  refine rd mixed ?_
  iterate 2 refine zv A8 ?_
  first | refine zv (BA Ap Ak) ?_ | refine zv (Bd Ap Ak) ?_
  refine zv (Bb Ak Br) ?_
  iterate 2 refine zv A8 ?_
  refine zv FW ?_
  rw [hcast]
  first | refine zv (BA Ap Ak) ?_ | refine zv (Bd Ap Ak) ?_
  refine zv (Bb Ak Br) ?_
  refine zv FW ?_
  refine zv Dj ?_
  refine zx A8 (fun jV=>?_) (fun jV=>?_)
  ·try simp at jV
   iterate 11 refine zk ?_
   refine zv Ai ?_
   refine ⟨by rfl,?_⟩
   refine Dw (hb:=by first | rfl | simp | simp_all) (ht:=?_)
   refine sg ?_
   refine qv A9 ?_
   refine AP ?_
   exact x1 (hr:=(DX (by rw [Po Aj.1 hc (fG (by omega))])))
  ·try simp at jV
   iterate 2 refine zv A8 ?_
   refine zv FW ?_
   rw [hcast]
   first | refine zv (BA Ap Ak) ?_ | refine zv (Bd Ap Ak) ?_
   refine zv (Bb Ak Br) ?_
   iterate 2 refine zv A8 ?_
   first | refine zv (BA Ap Ak) ?_ | refine zv (Bd Ap Ak) ?_
   refine zv (Bb Ak Br) ?_
   refine zv FW ?_
   refine zv Dj ?_
   refine zv Ai ?_
   refine ⟨by rfl,?_⟩
   refine cd (fun hc1=>?_) (fun hc1=>?_)
   ·try simp at hc1
    refine sg ?_
    refine qv A9 ?_
    refine AP ?_
    exact x1 (hr:=(DX (by rw [Po Aj.1 hc (fG (by omega))])))
   ·try simp at hc1
    refine AY ?_
    refine rg ?_
    refine qv A8 ?_
    refine qv Am ?_
    refine qv A9 ?_
    exact ⟨c+1,⟨by omega,fun j h1 h2 h3=>by
     rcases Nat.lt_or_ge j c with h4 | h4
     ·exact Aj.2 j h1 h2 h4
     ·obtain rfl:j=c:=by omega
      exact gN.2 (by omega)⟩,(by simp only;omega),(tl [])⟩
 ·try simp at hc0
  refine Ad ?_
  refine sg ?_
  refine qv A9 ?_
  refine AP ?_
  exact x1 (hr:=(DX (by rw [SX fun j h1 h2=>Aj.2 j h1 h2 (by omega)])))
theorem f71 (b:Bg) (l:List Int):AR Tryz.prog 71 [KJ b,ints l] (.one (.dv (i64 (JJ b l)))):=by
 refine Bu Tryz.func71 rfl rfl (by rw [Tryz.ntmps71];simp) fun cx hP hn hg=>?_
 rw [Tryz.ntmps71] at hn
 rw [Bq,Bp]
 simp only [List.nil_append,List.append_nil,List.cons_append,BF,Nat.reduceAdd]
 refine sg ?_
 refine qp BX ?_
 refine qv A9 ?_
 refine sg ?_
 refine qv (AQ D9 DW) ?_
 refine qv A8 ?_
 refine Bo (f110 b l) ?_
 refine qv A9 ?_
 refine AJ ?_
 refine sg ?_
 refine qv A8 ?_
 refine qv BP ?_
 refine cd (fun hc0=>?_) (fun hc0=>?_)
 ·skip
  have hv0:¬ He b l=0:=by simpa using hc0
  refine sg ?_
  refine qv A8 ?_
  refine qv A9 ?_
  refine AP ?_
  exact x1 (hr:=(CW (by rw [(Rh hv0).1,(Rh hv0).2])))
 ·skip
  have hv0:He b l=0:=by simpa using hc0
  have ok:=nR hv0
  have Uz:=ok.bg.n6
  have hd4:=ok.bg.d4
  have hle:=ok.len
  refine AY ?_
  refine AJ ?_
  refine sg ?_
  refine qv A8 ?_
  refine Bo (f111 l (by omega) (fun i hi=>by have:=ok.bd i hi;omega)) ?_
  refine qv Bn ?_
  refine cd (fun hc1=>?_) (fun hc1=>?_)
  ·try simp at hc1
   refine sg ?_
   refine qv A9 ?_
   refine AP ?_
   exact x1 (hr:=(CW (by rw [ny hv0 (by simpa using hc1)])))
  ·try simp at hc1
   refine AY ?_
   refine sg ?_
   refine qv A9 ?_
   refine AP ?_
   exact x1 (hr:=(CW (by rw [XQ hv0 (by simpa using hc1)])))
theorem f212 (l:List Int) (x:Int) (hl:l.length < 2000000):AR Tryz.prog 212 [ints l,i64 x] (.one (.dv (i64 (bV x l)))):=by
 refine Bu Tryz.func212 rfl rfl (by rw [Tryz.ntmps212];simp) fun cx hP hn hg=>?_
 rw [Tryz.ntmps212] at hn
 rw [Bq,Bp]
 simp only [List.nil_append,List.append_nil,List.cons_append,BF,Nat.reduceAdd]
 refine sg ?_
 refine qv A9 ?_
 refine AJ ?_
 refine sg ?_
 refine qv A8 ?_
 refine qv (BH CZ) ?_
 refine qv A8 ?_
 refine BD ?_
 refine Ag (ι:=Nat) (fun i=>⟨lk [(0,.dv (ints (l))),(1,.dv (i64 (x))),(7,.dv (i64 ((l.length:Int)))),(8,.dv (i64 (i:Nat)))],AA []⟩) (fun i=>i <= l.length /\ ∀ j (hj:j < l.length),j < i -> l[j] ≠ x) (fun i=>l.length - i) 0 (by simp) (tl []) ?_
 intro i Aj
 refine sg ?_
 refine qv BQ ?_
 refine AJ ?_
 refine cd (fun hc0=>?_) (fun hc0=>?_)
 ·try simp at hc0
  refine AY ?_
  refine AJ ?_
  refine BD ?_
  refine sg ?_
  have hi:i < l.length:=by omega
  have hx:l[i]?=some l[i]:=List.getElem?_eq_getElem hi
  refine qv A8 ?_
  refine qv A9 ?_
  refine sg ?_
  iterate 3 refine qv A8 ?_
  first | refine qv (BA Ap Ak) ?_ | refine qv (Bd Ap Ak) ?_
  refine qv (Bb Ak Br) ?_
  refine qv Bv ?_
  refine cd (fun hc1=>?_) (fun hc1=>?_)
  ·try simp at hc1
   refine sg ?_
   refine qv A8 ?_
   refine qv A9 ?_
   refine AP ?_
   exact x1 (hr:=(CW (by rw [gK hi (by simp_all) fun j hj h=>Aj.2 j hj h])))
  ·try simp at hc1
   refine AY ?_
   refine rg ?_
   refine qv Am ?_
   refine qv A8 ?_
   exact ⟨i+1,⟨by omega,fun j hj h=>by
    rcases Nat.lt_or_ge j i with h1 | h1
    ·exact Aj.2 j hj h1
    ·obtain rfl:j=i:=by omega
     exact fun e=>hc1 (by simp [e])⟩,(by simp only;omega),(tl [])⟩
 ·try simp at hc0
  refine Ad ?_
  refine sg ?_
  refine qv A9 ?_
  refine AP ?_
  exact x1 (hr:=(CW (by rw [gJ fun j hj=>Aj.2 j hj (by omega)])))
theorem f184 (l:List Int) (x:Int) (hl:l.length < 2000000):AR Tryz.prog 184 [ints l,i64 x] (.one (.dv (.bool (l.contains x)))):=by
 refine Bu Tryz.func184 rfl rfl (by rw [Tryz.ntmps184];simp) fun cx hP hn hg=>?_
 rw [Tryz.ntmps184] at hn
 rw [Bq,Bp]
 simp only [List.nil_append,List.append_nil,List.cons_append,BF,Nat.reduceAdd]
 refine sg ?_
 refine qv A9 ?_
 refine sg ?_
 iterate 2 refine qv A8 ?_
 refine Bo (f212 l x hl) ?_
 refine qv Df ?_
 refine qv A9 ?_
 refine AP ?_
 exact x1 (hr:=(DX (by exact XL)))
theorem f118 (l:List Int) (x:Int) (hl:l.length < 2000000):AR Tryz.prog 118 [ints l,i64 x] (.one (.dv (.bool (l.contains x)))):=by
 refine Bu Tryz.func118 rfl rfl (by rw [Tryz.ntmps118];simp) fun cx hP hn hg=>?_
 rw [Tryz.ntmps118] at hn
 rw [Bq,Bp]
 simp only [List.nil_append,List.append_nil,List.cons_append,BF,Nat.reduceAdd]
 refine sg ?_
 refine qv A9 ?_
 refine AJ ?_
 refine sg ?_
 refine qv A9 ?_
 refine BD ?_
 refine Ag (ι:=Nat) (fun i=>⟨lk [(0,.dv (ints (l))),(1,.dv (i64 (x))),(5,.dv (i64 (i:Nat)))],AA []⟩) (fun i=>i <= l.length /\ ∀ j (hj:j < l.length),j < i -> l[j] ≠ x) (fun i=>l.length - i) 0 (by simp) (tl []) ?_
 intro i Aj
 refine AJ ?_
 refine sg ?_
 iterate 2 refine qv A8 ?_
 refine qv (BH CZ) ?_
 refine qv BQ ?_
 refine cd (fun hc0=>?_) (fun hc0=>?_)
 ·try simp at hc0
  refine AY ?_
  refine AJ ?_
  refine BD ?_
  refine sg ?_
  have hi:i < l.length:=by omega
  have hx:l[i]?=some l[i]:=List.getElem?_eq_getElem hi
  iterate 2 refine qv A8 ?_
  first | refine qv (BA Ap Ak) ?_ | refine qv (Bd Ap Ak) ?_
  refine qv (Bb Ak Br) ?_
  refine qv A8 ?_
  refine qv Bv ?_
  refine cd (fun hc1=>?_) (fun hc1=>?_)
  ·try simp at hc1
   refine sg ?_
   refine qv A9 ?_
   refine AP ?_
   exact x1 (hr:=(DX (by rw [<- XL,gK hi (by simp_all) fun j hj h=>Aj.2 j hj h];simp)))
  ·try simp at hc1
   refine AY ?_
   refine rg ?_
   refine qv A8 ?_
   refine qv Am ?_
   refine qv A9 ?_
   exact ⟨i+1,⟨by omega,fun j hj h=>by
    rcases Nat.lt_or_ge j i with h1 | h1
    ·exact Aj.2 j hj h1
    ·obtain rfl:j=i:=by omega
     exact fun e=>hc1 (by simp [e])⟩,(by simp only;omega),(tl [])⟩
 ·try simp at hc0
  refine Ad ?_
  refine sg ?_
  refine qv A9 ?_
  refine AP ?_
  exact x1 (hr:=(DX (by rw [<- XL,gJ fun j hj=>Aj.2 j hj (by omega)];simp)))
theorem f131 (a b:List Int) (ha:a.length < 2000000):AR Tryz.prog 131 [ints a,ints b] (.one (.dv (.bool (a == b)))):=by
 refine Bu Tryz.func131 rfl rfl (by rw [Tryz.ntmps131];simp) fun cx hP hn hg=>?_
 rw [Tryz.ntmps131] at hn
 rw [Bq,Bp]
 simp only [List.nil_append,List.append_nil,List.cons_append,BF,Nat.reduceAdd]
 refine sg ?_
 refine qv A9 ?_
 refine AJ ?_
 refine sg ?_
 refine qv A8 ?_
 refine qv (BH CZ) ?_
 refine qv A8 ?_
 refine qv (BH CZ) ?_
 refine qv BP ?_
 refine cd (fun hc0=>?_) (fun hc0=>?_)
 ·try simp at hc0
  refine sg ?_
  refine qv A9 ?_
  refine AP ?_
  exact x1 (hr:=(DX (by symm;rw [beq_eq_false_iff_ne];intro e;exact hc0 (by rw [e]))))
 ·try simp at hc0
  have hlab:a.length=b.length:=by exact_mod_cast hc0
  refine AY ?_
  refine AJ ?_
  refine sg ?_
  refine qv A8 ?_
  refine qv (BH CZ) ?_
  refine qv A8 ?_
  refine BD ?_
  refine Ag (ι:=Nat) (fun i=>⟨lk [(0,.dv (ints (a))),(1,.dv (ints (b))),(12,.dv (i64 ((a.length:Int)))),(13,.dv (i64 (i:Nat)))],AA []⟩) (fun i=>i <= a.length /\ ∀ j,j < i -> Az a j=Az b j) (fun i=>a.length - i) 0 (by simp) (tl []) ?_
  intro i Aj
  refine sg ?_
  refine qv BQ ?_
  refine AJ ?_
  refine cd (fun hc1=>?_) (fun hc1=>?_)
  ·try simp at hc1
   refine AY ?_
   refine AJ ?_
   refine BD ?_
   refine sg ?_
   refine qv A8 ?_
   refine qv A9 ?_
   refine AJ ?_
   have hi:i < a.length:=by omega
   have hga:=Ah hi
   have hgb:=Ah (a:=b) (i:=i) (by omega)
   refine rd mixed ?_
   iterate 2 refine zv A8 ?_
   first | refine zv (BA Ap Ak) ?_ | refine zv (Bd Ap Ak) ?_
   refine zv (Bb Ak Br) ?_
   iterate 2 refine zv A8 ?_
   first | refine zv (BA Ap Ak) ?_ | refine zv (Bd Ap Ak) ?_
   refine zv (Bb Ak Br) ?_
   refine zv BP ?_
   refine ⟨by rfl,?_⟩
   refine cd (fun hc2=>?_) (fun hc2=>?_)
   ·try simp at hc2
    refine sg ?_
    refine qv A9 ?_
    refine AP ?_
    exact x1 (hr:=(DX (by symm;rw [beq_eq_false_iff_ne];intro e;exact hc2 (by rw [e]))))
   ·try simp at hc2
    refine AY ?_
    refine rg ?_
    refine qv Am ?_
    refine qv A8 ?_
    refine ⟨i+1,?_,(by simp only;omega),(tl [])⟩
    refine ⟨by omega,fun j hj=>?_⟩
    rcases Nat.lt_or_ge j i with h1 | h1
    ·exact Aj.2 j h1
    ·obtain rfl:j=i:=by omega
     simpa using hc2
  ·try simp at hc1
   refine Ad ?_
   refine sg ?_
   refine qv A9 ?_
   refine AP ?_
   exact x1 (hr:=(DX (by symm;rw [beq_iff_eq];exact pW hlab fun j hj=>Aj.2 j (by omega))))
end Go.Ab.Tryz
namespace Go.Ab.Tryz
open Go Go.Ab Go.Proofs Go.Ab.Ci
open Go.Ab.Heap (Az Ah BZ)
open Go.Ab.Heap (sm)
def KC (l:List Int) (c:Nat):List Int:=l.set c (Az l c+1)
def Cz (b:Bg) (l:List Int) (c:Nat):Bool:=decide (Az l c+1 <= b.dep) && IL (KC l c)
def fC (b:Bg) (l:List Int):List Int:=ns ((List.range l.length).filter (Cz b l))
def JX (b:Bg) (l:List Int):List Int:=if JJ b l=0 then fC b l else []
theorem Jf {l:List Int} {c:Nat}:(KC l c).length=l.length:=by simp [KC]
theorem gu {l:List Int} {c:Nat} (h:c < l.length):(KC l c)[c]?=some (Az l c+1):=by simp [KC,h]
theorem Tq {l:List Int} {c i:Nat} (h:c < l.length):Az (KC l c) i=if i=c then Az l c+1 else Az l i:=by
 unfold KC
 rw [BZ h]
theorem qC {b:Bg} {l:List Int} (ok:Nu b l) {c:Nat} (h:c < l.length):∀ i,i < (KC l c).length -> 0 <= Az (KC l c) i /\ Az (KC l c) i <= 5:=fun i hi=>by
 rw [Jf] at hi
 rw [Tq h]
 have h1:=ok.bd c h
 have h2:=ok.bd i hi
 have h3:=ok.bg.d4
 split<;>omega
def Ow (b:Bg) (i:Nat) (k:Nat):Int:=sm (Az (b.col i)) k
def Mh (b:Bg) (l:List Int) (n:Nat):Int:=sm (fun i=>Ow b i (Az l i).toNat) n
def worth (b:Bg) (l:List Int):Int:=Mh b l l.length
theorem MW {b:Bg} (ok:PW b) {i j:Nat} (hi:i < b.worth.length) (hj:j < b.dep):-50 <= Az (b.col i) j /\ Az (b.col i) j <= 50 :=
 ok.bd i hi _ (List.mem_of_getElem? (Ah (by rw [ok.len i hi];exact hj)))
theorem Xm {b:Bg} (ok:PW b) {i:Nat} (hi:i < b.worth.length):∀ k,k <= b.dep -> -(50 * k:Int) <= Ow b i k /\ Ow b i k <= 50 * k
 | 0,_=>by simp [Ow,sm]
 | k+1,h=>by
  have h1:=Xm ok hi k (by omega)
  have h2:=MW ok hi (show k < b.dep by omega)
  unfold Ow at h1 ⊢
  simp only [sm]
  omega
theorem Wh {b:Bg} {l:List Int} (ok:Nu b l):∀ n,n <= l.length -> -(200 * n:Int) <= Mh b l n /\ Mh b l n <= 200 * n
 | 0,_=>by simp [Mh,sm]
 | n+1,h=>by
  have h1:=Wh ok n (by omega)
  have h2:=ok.bd n (by omega)
  have h3:=ok.bg.d4
  have h4:=Xm ok.bg (i:=n) (by rw [<- ok.len];omega) (Az l n).toNat (by omega)
  unfold Mh at h1 ⊢
  simp only [sm]
  omega
theorem take_at {l:List Int} {k j:Nat} (h:j < k) (hl:k <= l.length):(l.take k)[j]?=some (Az l j):=by
 rw [List.getElem?_take_of_lt h];exact Ah (by omega)
theorem f211 (b:Bg) (l:List Int) (ok:Nu b l) (c:Nat) (hc:c < l.length):AR Tryz.prog 211 [KJ b,ints l,i64 (c:Nat)] (.one (.dv (.bool (Cz b l c)))):=by
 have hn0:=ok.bg.n0
 have Uz:=ok.bg.n6
 have hd4:=ok.bg.d4
 have hle:=ok.len
 have hgc:=Ah hc
 have hbc:=ok.bd c hc
 have hgs:=gu hc
 have hdl:=Jf (l:=l) (c:=c)
 refine Bu Tryz.func211 rfl rfl (by rw [Tryz.ntmps211];simp) fun cx hP hn hg=>?_
 rw [Tryz.ntmps211] at hn
 rw [Bq,Bp]
 simp only [List.nil_append,List.append_nil,List.cons_append,BF,Nat.reduceAdd]
 refine sg ?_
 refine qp BX ?_
 refine qv A9 ?_
 refine sg ?_
 refine qv A8 ?_
 refine Bo (f97 l (by omega)) ?_
 refine qv A9 ?_
 refine sg ?_
 iterate 2 refine qv A8 ?_
 refine qv (CB Ap Ak) ?_
 refine qv (EG Ak Br (hq:=hgc)) ?_
 refine qv Am ?_
 refine qv (CB Ap Ak) ?_
 refine qs (Gp Ak) ?_
 refine AJ ?_
 rw [show l.set c (Az l c+1)=KC l c from rfl]
 refine rd mixed ?_
 iterate 2 refine zv A8 ?_
 refine zv (CB Ap Ak) ?_
 refine zv (EG Ak Br (hq:=hgs)) ?_
 refine zv (AQ D9 DW) ?_
 refine GA (R:=[]) (f109 b hn0) ?_
 refine zv IU ?_
 refine zx A8 (fun bq=>?_) (fun bq=>?_)
 ·try simp at bq
  refine zv A8 ?_
  refine GA (R:=[9]) (f70 (KC l c) (by omega) (qC ok hc)) ?_ (ha:=(CG (BS (L:=KC l c) (by simp only [AA,reduceIte,Nat.reduceEqDiff]<;>rfl) trivial (by first | rfl | omega | (simp;done) | (simp;omega)) rfl rfl (fun _=>trivial)) EH))
  refine zv Ai ?_
  refine zv A9 ?_
  refine ⟨by rfl,?_⟩
  refine AP ?_
  exact x1 (hr:=(DX (by unfold Cz;first | (rw [decide_eq_true (show Az l c+1 <= (b.dep:Int) by omega),Bool.true_and]) | (rw [decide_eq_false (show ¬ Az l c+1 <= (b.dep:Int) by omega),Bool.false_and]))))
 ·try simp at bq
  iterate 2 refine zk ?_
  refine zv Ai ?_
  refine zv A9 ?_
  refine ⟨by rfl,?_⟩
  refine AP ?_
  exact x1 (hr:=(DX (by unfold Cz;first | (rw [decide_eq_true (show Az l c+1 <= (b.dep:Int) by omega),Bool.true_and]) | (rw [decide_eq_false (show ¬ Az l c+1 <= (b.dep:Int) by omega),Bool.false_and]))))
theorem f183 (b:Bg) (l:List Int):AR Tryz.prog 183 [KJ b,ints l] (.many [rI (JX b l),.dv (i64 (JJ b l))]):=by
 refine Bu Tryz.func183 rfl rfl (by rw [Tryz.ntmps183];simp) fun cx hP hn hg=>?_
 rw [Tryz.ntmps183] at hn
 rw [Bq,Bp]
 simp only [List.nil_append,List.append_nil,List.cons_append,BF,Nat.reduceAdd]
 refine sg ?_
 refine qp BX ?_
 iterate 2 refine qv A9 ?_
 refine AJ ?_
 refine sg ?_
 refine qv (AQ D9 DW) ?_
 refine qv A8 ?_
 refine Bo (f27 b l) ?_
 refine qv A9 ?_
 refine sg ?_
 refine qv A8 ?_
 refine qv BP ?_
 refine cd (fun hc0=>?_) (fun hc0=>?_)
 ·skip
  have hv0:¬ JJ b l=0:=by simpa using hc0
  refine sg ?_
  refine qv A8 ?_
  iterate 2 refine qv A9 ?_
  refine AP ?_
  exact x2 (hr:=(rN_ (by unfold JX;rw [if_neg hv0]))) (hr':=(CW))
 ·skip
  have hv0:JJ b l=0:=by simpa using hc0
  obtain ⟨ok,hrt⟩:=o7 hv0
  have Uz:=ok.bg.n6
  have hle:=ok.len
  refine AY ?_
  refine sg ?_
  refine qv A9 ?_
  refine AJ ?_
  refine sg ?_
  refine qv A8 ?_
  refine qv (BH CZ) ?_
  refine qv A8 ?_
  refine BD ?_
  refine Ag (ι:=Nat) (fun i=>⟨lk [(1,.dv (ints (l))),(2,.pt 2 0 0),(7,.sl 7 0 0 ((ns ((List.range i).filter (Cz b l))).length)),(16,.dv (i64 ((l.length:Int)))),(17,.dv (i64 (i:Nat)))],AA [(2,0,some ⟨[.dv (.list ((b.worth).map ints))],0,24,0,false⟩),(7,0,some (Jv (ns ((List.range i).filter (Cz b l)))))]⟩) (fun i=>i <= l.length) (fun i=>l.length - i) 0 (by simp) (tl [(2,2)] (hF:=by simp [Ck,Aa,lk,AA,isLive,Ac,ns]) (hM:=by simp [CV,Al,Aa,Ae,lk,AA,isLive,Ac,BK,BJ,Af,BI,BL,BO,BM,BN,ns])) ?_
  intro i Aj
  have hfl:=Oj (p:=Cz b l) (k:=i)
  refine sg ?_
  refine qv BQ ?_
  refine AJ ?_
  refine cd (fun hc1=>?_) (fun hc1=>?_)
  ·try simp at hc1
   refine AY ?_
   refine AJ ?_
   refine BD ?_
   refine sg ?_
   refine qv A8 ?_
   refine qv A9 ?_
   refine sg ?_
   have hi:i < l.length:=by omega
   refine qv (AQ D9 DW) ?_
   iterate 2 refine qv A8 ?_
   refine Bo (f211 b l ok i hi) ?_
   refine cd (fun hc2=>?_) (fun hc2=>?_)
   ·try simp at hc2
    have hsn:=Pz (p:=Cz b l) (k:=i) hc2
    have hnl:(ns ((List.range i).filter (Cz b l))).length <= 6:=by rw [Py];omega
    refine rg ?_
    iterate 2 refine qv A8 ?_
    refine qr (D7 Ap Jq Ak) ?_
    refine Qg (DK Ap Ap Jq Ak U7) ?_
    refine qv A9 ?_
    refine rg ?_
    refine qv Am ?_
    refine qv A8 ?_
    exact ⟨i+1,hi,(by simp only;omega),(tl [(2,2),(7,27)] (hF:=by simp [Ck,Aa,lk,AA,isLive,Ac,hsn]) (hM:=by simp [CV,Al,Aa,Ae,lk,AA,isLive,Ac,BK,BJ,Af,BI,BL,BO,BM,BN,hsn]))⟩
   ·try simp at hc2
    have hsn:=J5 (p:=Cz b l) (k:=i) (by simpa using hc2)
    refine AY ?_
    refine rg ?_
    refine qv Am ?_
    refine qv A8 ?_
    exact ⟨i+1,hi,(by simp only;omega),(tl [(2,2),(7,7)] (hF:=by simp [Ck,Aa,lk,AA,isLive,Ac,hsn]) (hM:=by simp [CV,Al,Aa,Ae,lk,AA,isLive,Ac,BK,BJ,Af,BI,BL,BO,BM,BN,hsn]))⟩
  ·try simp at hc1
   refine Ad ?_
   refine sg ?_
   refine qv A8 ?_
   iterate 2 refine qv A9 ?_
   refine AP ?_
   obtain rfl:i=l.length:=by omega
   exact x2 (hr:=(eu (by unfold JX;rw [if_pos hv0];first | done | rfl))) (hr':=(CW (by rw [hv0])))
theorem f125 (b:Bg) (l:List Int) (ok:Nu b l):AR Tryz.prog 125 [KJ b,ints l] (.one (.dv (i64 (worth b l)))):=by
 have hn0:=ok.bg.n0
 have Uz:=ok.bg.n6
 have hd4:=ok.bg.d4
 have hle:=ok.len
 refine Bu Tryz.func125 rfl rfl (by rw [Tryz.ntmps125];simp) fun cx hP hn hg=>?_
 rw [Tryz.ntmps125] at hn
 rw [Bq,Bp]
 simp only [List.nil_append,List.append_nil,List.cons_append,BF,Nat.reduceAdd]
 refine sg ?_
 refine qp BX ?_
 refine qv A9 ?_
 refine sg ?_
 refine qv A9 ?_
 refine AJ ?_
 refine sg ?_
 refine qv A8 ?_
 refine qv (BH CZ) ?_
 refine qv A8 ?_
 refine BD ?_
 refine Ag (ι:=Nat) (fun i=>⟨lk [(2,.pt 2 0 0),(5,.dv (i64 (Mh b l i))),(10,.dv (ints (l))),(11,.dv (i64 ((l.length:Int)))),(12,.dv (i64 (i:Nat)))],AA [(2,0,some ⟨[.dv (.list ((b.worth).map ints))],0,24,0,false⟩)]⟩) (fun i=>i <= l.length) (fun i=>l.length - i) 0 (by simp) (tl [(2,2)] (hF:=by simp [Ck,Aa,lk,AA,isLive,Ac,Mh,sm]) (hM:=by simp [CV,Al,Aa,Ae,lk,AA,isLive,Ac,BK,BJ,Af,BI,BL,BO,BM,BN,Mh,sm])) ?_
 intro i Aj
 refine sg ?_
 refine qv BQ ?_
 refine AJ ?_
 refine cd (fun hc0=>?_) (fun hc0=>?_)
 ·try simp at hc0
  refine AY ?_
  refine AJ ?_
  refine BD ?_
  refine sg ?_
  have hi:i < l.length:=by omega
  have hgi:=Ah hi
  have hgc:=Ef (b:=b) (i:=i) (by omega)
  have hlc:=ok.bg.len i (by omega)
  have hbi:=ok.bd i hi
  obtain ⟨k,hk⟩:∃ k:Nat,Az l i=k:=⟨(Az l i).toNat,by omega⟩
  rw [hk] at hgi hbi
  refine qv A8 ?_
  first | refine qv (BA Ap Ak) ?_ | refine qv (Bd Ap Ak) ?_
  refine qv (Bb Ak Br) ?_
  iterate 2 refine qv A9 ?_
  refine sg ?_
  refine qv (AB Cb) ?_
  refine qv (AL DF Da) ?_
  refine qv A8 ?_
  first | refine qv (BA CO Av) ?_ | refine qv (Bd CO Av) ?_
  refine qv (Bb Av Bl) ?_
  refine qv A8 ?_
  refine qv (nP (L':=(b.col i).take k) Ap Ak (hL:=by simp)) ?_
  refine qv (BH CZ) ?_
  refine qv A8 ?_
  refine BD ?_
  refine Ag (ι:=Nat) (fun j=>⟨lk [(2,.pt 2 0 0),(5,.dv (i64 (Mh b l i+Ow b i j))),(10,.dv (ints (l))),(11,.dv (i64 ((l.length:Int)))),(12,.dv (i64 (i:Nat))),(23,.dv (ints (((b.col i).take k)))),(24,.dv (i64 (((((b.col i).take k)).length:Int)))),(25,.dv (i64 (j:Nat)))],AA [(2,0,some ⟨[.dv (.list ((b.worth).map ints))],0,24,0,false⟩)]⟩) (fun j=>j <= k) (fun j=>k - j) 0 (by simp) (tl [(2,2)] (hF:=by simp [Ck,Aa,lk,AA,isLive,Ac,Ow,sm]) (hM:=by simp [CV,Al,Aa,Ae,lk,AA,isLive,Ac,BK,BJ,Af,BI,BL,BO,BM,BN,Ow,sm])) ?_
  intro j Es
  refine sg ?_
  refine qv BQ ?_
  refine AJ ?_
  refine cd (fun hc1=>?_) (fun hc1=>?_)
  ·try simp at hc1
   refine AY ?_
   refine AJ ?_
   refine BD ?_
   refine sg ?_
   have hj:j < k:=by simp at *;omega
   have hgj:=take_at (l:=b.col i) hj (by omega)
   have hwb:=Wh ok i (by omega)
   have hcb:=Xm ok.bg (i:=i) (by omega) j (by omega)
   have hab:=MW ok.bg (i:=i) (j:=j) (by omega) (by omega)
   have hcs:Mh b l i+Ow b i (j+1)=Mh b l i+Ow b i j+Az (b.col i) j:=by simp only [Ow,sm];omega
   first | refine qv (BA Ap Ak) ?_ | refine qv (Bd Ap Ak) ?_
   refine qv (Bb Ak Br) ?_
   refine qv A9 ?_
   refine rg ?_
   iterate 2 refine qv A8 ?_
   refine qv Am ?_
   refine qv A9 ?_
   refine rg ?_
   refine qv Am ?_
   refine qv A8 ?_
   exact ⟨j+1,hj,(by simp only;omega),(tl [(2,2)] (hF:=by simp [Ck,Aa,lk,AA,isLive,Ac,hcs]) (hM:=by simp [CV,Al,Aa,Ae,lk,AA,isLive,Ac,BK,BJ,Af,BI,BL,BO,BM,BN,hcs]))⟩
  ·try simp at hc1
   obtain rfl:j=k:=by simp at *;omega
   have hws:Mh b l (i+1)=Mh b l i+Ow b i j:=by simp only [Mh,sm];rw [hk];rfl
   refine Ad ?_
   refine rg ?_
   refine qv Am ?_
   refine qv A8 ?_
   exact ⟨i+1,hi,(by simp only;omega),(tl [(2,2)] (hF:=by simp [Ck,Aa,lk,AA,isLive,Ac,hws]) (hM:=by simp [CV,Al,Aa,Ae,lk,AA,isLive,Ac,BK,BJ,Af,BI,BL,BO,BM,BN,hws]))⟩
 ·try simp at hc0
  refine Ad ?_
  refine sg ?_
  refine qv A8 ?_
  refine qv A9 ?_
  refine AP ?_
  obtain rfl:i=l.length:=by omega
  exact x1 (hr:=(CW))
theorem f82 (b:Bg) (l:List Int):AR Tryz.prog 82 [KJ b,ints l] (.many [.dv (i64 (if JJ b l=0 then worth b l else 0)),.dv (i64 (JJ b l))]):=by
 refine Bu Tryz.func82 rfl rfl (by rw [Tryz.ntmps82];simp) fun cx hP hn hg=>?_
 rw [Tryz.ntmps82] at hn
 rw [Bq,Bp]
 simp only [List.nil_append,List.append_nil,List.cons_append,BF,Nat.reduceAdd]
 refine sg ?_
 refine qp BX ?_
 iterate 2 refine qv A9 ?_
 refine AJ ?_
 refine sg ?_
 refine qv (AQ D9 DW) ?_
 refine qv A8 ?_
 refine Bo (f27 b l) ?_
 refine qv A9 ?_
 refine sg ?_
 refine qv A8 ?_
 refine qv BP ?_
 refine cd (fun hc0=>?_) (fun hc0=>?_)
 ·skip
  have hv0:¬ JJ b l=0:=by simpa using hc0
  refine sg ?_
  refine qv A8 ?_
  iterate 2 refine qv A9 ?_
  refine AP ?_
  exact x2 (hr:=(CW (by rw [if_neg hv0]))) (hr':=(CW))
 ·skip
  have hv0:JJ b l=0:=by simpa using hc0
  obtain ⟨ok,hrt⟩:=o7 hv0
  refine AY ?_
  refine sg ?_
  refine qv (AQ D9 DW) ?_
  refine qv A8 ?_
  refine Bo (f125 b l ok) ?_
  iterate 2 refine qv A9 ?_
  refine AP ?_
  exact x2 (hr:=(CW (by rw [if_pos hv0]))) (hr':=(CW (by rw [hv0])))
theorem f159 (b:Bg) (l:List Int) (ok:Nu b l):AR Tryz.prog 159 [KJ b,ints l] (.one (rI (fC b l))):=by
 have hn0:=ok.bg.n0
 have Uz:=ok.bg.n6
 have hd4:=ok.bg.d4
 have hle:=ok.len
 refine Bu Tryz.func159 rfl rfl (by rw [Tryz.ntmps159];simp) fun cx hP hn hg=>?_
 rw [Tryz.ntmps159] at hn
 rw [Bq,Bp]
 simp only [List.nil_append,List.append_nil,List.cons_append,BF,Nat.reduceAdd]
 refine sg ?_
 refine qp BX ?_
 refine qv A9 ?_
 refine sg ?_
 refine qv A9 ?_
 refine AJ ?_
 refine sg ?_
 refine qv A9 ?_
 refine BD ?_
 refine Ag (ι:=Nat) (fun i=>⟨lk [(1,.dv (ints (l))),(2,.pt 2 0 0),(5,.sl 5 0 0 ((ns ((List.range i).filter (Cz b l))).length)),(6,.dv (i64 (i:Nat)))],AA [(2,0,some ⟨[.dv (.list ((b.worth).map ints))],0,24,0,false⟩),(5,0,some (Jv (ns ((List.range i).filter (Cz b l)))))]⟩) (fun i=>i <= l.length) (fun i=>l.length - i) 0 (by simp) (tl [(2,2)] (hF:=by simp [Ck,Aa,lk,AA,isLive,Ac,ns]) (hM:=by simp [CV,Al,Aa,Ae,lk,AA,isLive,Ac,BK,BJ,Af,BI,BL,BO,BM,BN,ns])) ?_
 intro i Aj
 have hfl:=Oj (p:=Cz b l) (k:=i)
 refine AJ ?_
 refine sg ?_
 iterate 2 refine qv A8 ?_
 refine qv (BH CZ) ?_
 refine qv BQ ?_
 refine cd (fun hc0=>?_) (fun hc0=>?_)
 ·try simp at hc0
  refine AY ?_
  refine AJ ?_
  refine BD ?_
  refine sg ?_
  have hi:i < l.length:=by omega
  have hgc:=Ah hi
  have hbc:=ok.bd i hi
  have hgs:=gu hi
  have hdl:=Jf (l:=l) (c:=i)
  refine qr (D7 Ap Jq Ak) ?_
  refine qv A8 ?_
  refine Qg (DK Ap Ap Jq Ak U7) ?_
  refine qv A9 ?_
  refine sg ?_
  iterate 2 refine qv A8 ?_
  refine qv (CB Ap Ak) ?_
  refine qv (EG Ak Br (hq:=hgc)) ?_
  refine qv Am ?_
  refine qv (CB Ap Ak) ?_
  refine qs (Gp Ak) ?_
  refine AJ ?_
  rw [show l.set i (Az l i+1)=KC l i from rfl]
  refine rd mixed ?_
  iterate 2 refine zv A8 ?_
  refine zv (CB Ap Ak) ?_
  refine zv (EG Ak Br (hq:=hgs)) ?_
  refine zv (AQ D9 DW) ?_
  refine GA (R:=[]) (f156 b hn0) ?_
  refine zv IU ?_
  refine zx A8 (fun Jm=>?_) (fun Jm=>?_)
  ·try simp at Jm
   refine zv A8 ?_
   refine GA (R:=[16]) (f111 (KC l i) (by omega) (qC ok hi)) ?_ (ha:=(CG (BS (L:=KC l i) (by simp only [AA,reduceIte,Nat.reduceEqDiff]<;>rfl) trivial (by first | rfl | omega | (simp;done) | (simp;omega)) rfl rfl (fun _=>trivial)) EH))
   try have hsn:(List.range (i+1)).filter (Cz b l)=(List.range i).filter (Cz b l):=J5 (by unfold Cz;rw [decide_eq_false (show ¬ Az l i+1 <= (b.dep:Int) by omega),Bool.false_and];decide)
   refine zv Ai ?_
   refine ⟨by rfl,?_⟩
   refine cd (fun hc1=>?_) (fun hc1=>?_)
   ·try simp at hc1
    have hop:Cz b l i=true:=by unfold Cz;rw [decide_eq_true (show Az l i+1 <= (b.dep:Int) by omega),Bool.true_and];exact hc1
    have hsn:=Pz (p:=Cz b l) (k:=i) hop
    have hnl:(ns ((List.range i).filter (Cz b l))).length <= 6:=by rw [Py];omega
    refine rg ?_
    iterate 2 refine qv A8 ?_
    refine qr (D7 Ap Jq Ak) ?_
    refine Qg (DK Ap Ap Jq Ak U7) ?_
    refine qv A9 ?_
    refine rg ?_
    refine qv A8 ?_
    refine qv Am ?_
    refine qv A9 ?_
    exact ⟨i+1,hi,(by simp only;omega),(tl [(2,2),(5,37)] (hF:=by simp [Ck,Aa,lk,AA,isLive,Ac,hsn]) (hM:=by simp [CV,Al,Aa,Ae,lk,AA,isLive,Ac,BK,BJ,Af,BI,BL,BO,BM,BN,hsn]))⟩
   ·try simp at hc1
    have hop:¬ Cz b l i=true:=by unfold Cz;rw [decide_eq_true (show Az l i+1 <= (b.dep:Int) by omega),Bool.true_and];simpa using hc1
    have hsn:=J5 (p:=Cz b l) (k:=i) hop
    refine AY ?_
    refine rg ?_
    refine qv A8 ?_
    refine qv Am ?_
    refine qv A9 ?_
    exact ⟨i+1,hi,(by simp only;omega),(tl [(2,2),(5,5)] (hF:=by simp [Ck,Aa,lk,AA,isLive,Ac,hsn]) (hM:=by simp [CV,Al,Aa,Ae,lk,AA,isLive,Ac,BK,BJ,Af,BI,BL,BO,BM,BN,hsn]))⟩
  ·try simp at Jm
   iterate 2 refine zk ?_
   try have hsn:(List.range (i+1)).filter (Cz b l)=(List.range i).filter (Cz b l):=J5 (by unfold Cz;rw [decide_eq_false (show ¬ Az l i+1 <= (b.dep:Int) by omega),Bool.false_and];decide)
   refine zv Ai ?_
   refine ⟨by rfl,?_⟩
   refine Cv (hb:=by first | rfl | simp | simp_all) (ht:=?_)
   refine AY ?_
   refine rg ?_
   refine qv A8 ?_
   refine qv Am ?_
   refine qv A9 ?_
   exact ⟨i+1,hi,(by simp only;omega),(tl [(2,2),(5,5)] (hF:=by simp [Ck,Aa,lk,AA,isLive,Ac,hsn]) (hM:=by simp [CV,Al,Aa,Ae,lk,AA,isLive,Ac,BK,BJ,Af,BI,BL,BO,BM,BN,hsn]))⟩
 ·try simp at hc0
  refine Ad ?_
  refine sg ?_
  refine qv A8 ?_
  refine qv A9 ?_
  refine AP ?_
  obtain rfl:i=l.length:=by omega
  exact x1 (hr:=(eu))
theorem f117 (b:Bg) (l:List Int):AR Tryz.prog 117 [KJ b,ints l] (.many [rI (JX b l),.dv (i64 (JJ b l))]):=by
 refine Bu Tryz.func117 rfl rfl (by rw [Tryz.ntmps117];simp) fun cx hP hn hg=>?_
 rw [Tryz.ntmps117] at hn
 rw [Bq,Bp]
 simp only [List.nil_append,List.append_nil,List.cons_append,BF,Nat.reduceAdd]
 refine sg ?_
 refine qp BX ?_
 iterate 2 refine qv A9 ?_
 refine sg ?_
 refine qv (AQ D9 DW) ?_
 refine qv A8 ?_
 refine Bo (f71 b l) ?_
 refine qv A9 ?_
 refine AJ ?_
 refine sg ?_
 refine qv A8 ?_
 refine qv BP ?_
 refine cd (fun hc0=>?_) (fun hc0=>?_)
 ·skip
  have hv0:¬ JJ b l=0:=by simpa using hc0
  refine sg ?_
  refine qv A8 ?_
  iterate 2 refine qv A9 ?_
  refine AP ?_
  exact x2 (hr:=(rN_ (by unfold JX;rw [if_neg hv0]))) (hr':=(CW))
 ·skip
  have hv0:JJ b l=0:=by simpa using hc0
  obtain ⟨ok,hrt⟩:=o7 hv0
  refine AY ?_
  refine sg ?_
  refine qv (AQ D9 DW) ?_
  refine qv A8 ?_
  refine Bo (f159 b l ok) ?_
  iterate 2 refine qv A9 ?_
  refine AP ?_
  exact x2 (hr:=(eu (by unfold JX;rw [if_pos hv0]))) (hr':=(CW (by rw [hv0])))
end Go.Ab.Tryz
