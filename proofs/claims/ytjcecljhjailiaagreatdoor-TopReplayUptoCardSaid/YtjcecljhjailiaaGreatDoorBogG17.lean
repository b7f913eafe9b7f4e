/- BogH1, BogH2. -/
import Derived.Test.YtjcecljhjailiaaGreatDoorBogG16
import Derived.Test.YtjcecljhjailiaaGreatDoorBogG07
import Derived.Test.YtjcecljhjailiaaGreatDoorBogG11
set_option linter.all false
namespace Go.Ab.Tryz.H
open Go Go.Ab Go.Ab.Tryz Go.Proofs Go.Ab.Heap
abbrev mq (f:FuncId) (p:Int -> Bool) (l:List Int):Prop:=∀ x ∈ l,AR Tryz.prog f ([] ++ [i64 x] ++ []) (.one (.dv (.bool (p x))))
def Lr (p:Int -> Bool) (l:List Int):Int:=if l.any p then (l.findIdx p:Int) else -1
theorem pQ {p:Int -> Bool} {l:List Int} {i:Nat} (hi:i < l.length) (hp:p l[i]=true) (hj:∀ j (h:j < l.length),j < i -> p l[j]=false):Lr p l=i:=by
 unfold Lr
 rw [if_pos (List.any_eq_true.2 ⟨_,List.getElem_mem hi,hp⟩)]
 congr 1
 exact (List.findIdx_eq hi).2 ⟨hp,fun j h=>by simpa using hj j (by omega) h⟩
theorem jm {p:Int -> Bool} {l:List Int} (hj:∀ j (h:j < l.length),p l[j]=false):Lr p l=-1:=by
 unfold Lr
 rw [if_neg]
 intro h
 obtain ⟨x,hx,hpx⟩:=List.any_eq_true.1 h
 obtain ⟨j,h2,rfl⟩:=List.getElem_of_mem hx
 rw [hj j h2] at hpx;cases hpx
theorem pR {p:Int -> Bool} {l:List Int}:decide (0 <= Lr p l)=l.any p:=by
 unfold Lr
 split
 ·rename_i h;rw [h];simp
 ·rename_i h;simp at h ⊢;exact h
theorem f133 (n lo hi:Int):AR Tryz.prog 133 [i64 n,i64 lo,i64 hi] (.one (.dv (.bool (Km n lo hi)))):=by
 refine Bv Tryz.func133 rfl rfl (by rw [Tryz.ntmps133];simp) fun cx hP hn hg=>?_
 rw [Tryz.ntmps133] at hn
 rw [Br,Bq]
 simp only [List.nil_append,List.append_nil,List.cons_append,BH,Nat.reduceAdd]
 refine sg ?_
 refine qv A9 ?_
 refine sg ?_
 iterate 2 refine qv A8 ?_
 refine qv FT ?_
 refine qx A8 (fun F6=>?_) (fun F6=>?_)
 ·try simp at F6
  iterate 2 refine qv A8 ?_
  refine qv LD ?_
  refine qv Ae ?_
  refine qv A9 ?_
  refine AV ?_
  exact x1 (hr:=(Ej (by first | (simp_all [Km];done) | (simp_all [Km];omega))))
 ·try simp at F6
  iterate 3 refine qk ?_
  refine qv Ae ?_
  refine qv A9 ?_
  refine AV ?_
  exact x1 (hr:=(Ej (by first | (simp_all [Km];done) | (simp_all [Km];omega))))
theorem f121 (n lo hi:Int):AR Tryz.prog 121 [i64 n,i64 lo,i64 hi] (.one (.dv (.bool (Km n lo hi)))):=by
 refine Bv Tryz.func121 rfl rfl (by rw [Tryz.ntmps121];simp) fun cx hP hn hg=>?_
 rw [Tryz.ntmps121] at hn
 rw [Br,Bq]
 simp only [List.nil_append,List.append_nil,List.cons_append,BH,Nat.reduceAdd]
 refine sg ?_
 refine qv A9 ?_
 refine sg ?_
 iterate 2 refine qv A8 ?_
 refine qv FT ?_
 refine qx A8 (fun F6=>?_) (fun F6=>?_)
 ·try simp at F6
  iterate 2 refine qv A8 ?_
  refine qv LD ?_
  refine qv Ae ?_
  refine qv A9 ?_
  refine AV ?_
  exact x1 (hr:=(Ej (by first | (simp_all [Km];done) | (simp_all [Km];omega))))
 ·try simp at F6
  iterate 3 refine qk ?_
  refine qv Ae ?_
  refine qv A9 ?_
  refine AV ?_
  exact x1 (hr:=(Ej (by first | (simp_all [Km];done) | (simp_all [Km];omega))))
theorem f165 (x:Int):AR Tryz.prog 165 [i64 x] (.one (.dv (.bool (!Km x 0 30)))):=by
 refine Bv Tryz.func165 rfl rfl (by rw [Tryz.ntmps165];simp) fun cx hP hn hg=>?_
 rw [Tryz.ntmps165] at hn
 rw [Br,Bq]
 simp only [List.nil_append,List.append_nil,List.cons_append,BH,Nat.reduceAdd]
 refine sg ?_
 refine qv A9 ?_
 refine sg ?_
 refine qv A8 ?_
 refine CF (f133 x 0 30) ?_
 refine qv CP ?_
 refine qv A9 ?_
 refine AV ?_
 exact x1 (hr:=(Ej))
theorem f155 (l:List Int) (f:FuncId) (p:Int -> Bool) (hp:mq f p l) (hl:l.length < 2000000):AR Tryz.prog 155 [ints l,.fn f [] []] (.one (.dv (i64 (Lr p l)))):=by
 refine Bv Tryz.func155 rfl rfl (by rw [Tryz.ntmps155];simp) fun cx hP hn hg=>?_
 rw [Tryz.ntmps155] at hn
 rw [Br,Bq]
 simp only [List.nil_append,List.append_nil,List.cons_append,BH,Nat.reduceAdd]
 refine sg ?_
 refine qv A9 ?_
 refine AL ?_
 refine sg ?_
 refine qv A8 ?_
 refine qv (BD Cj) ?_
 refine qv A8 ?_
 refine BI ?_
 refine Ao (ι:=Nat) (fun i=>⟨lk [(0,.dv (ints (l))),(1,.dv (.fn f [] [])),(7,.dv (i64 ((l.length:Int)))),(8,.dv (i64 (i:Nat)))],AA []⟩) (fun i=>i <= l.length /\ ∀ j (h:j < l.length),j < i -> p l[j]=false) (fun i=>l.length - i) 0 (by simp) (tl []) ?_
 intro i BM
 refine sg ?_
 refine qv BK ?_
 refine AL ?_
 refine cd (fun hc0=>?_) (fun hc0=>?_)
 ·try simp at hc0
  refine Af ?_
  refine AL ?_
  refine BI ?_
  refine sg ?_
  refine qv A8 ?_
  refine qv A9 ?_
  refine sg ?_
  iterate 3 refine qv A8 ?_
  have hin:i < l.length:=by omega
  first | refine qv (BF BG Aw) ?_ | refine qv (Bf BG Aw) ?_
  refine qv (Bb Aw Bw) ?_
  refine zF (hp l[i] (List.getElem_mem hin)) ?_
  refine cd (fun hc1=>?_) (fun hc1=>?_)
  ·try simp at hc1
   refine sg ?_
   refine qv A8 ?_
   refine qv A9 ?_
   refine AV ?_
   exact x1 (hr:=(Cc (by rw [pQ hin (by simpa using hc1) BM.2])))
  ·try simp at hc1
   refine Af ?_
   refine rg ?_
   refine qv Aq ?_
   refine qv A8 ?_
   refine ⟨i+1,?_,(by simp only;omega),(tl [])⟩
   refine ⟨hin,fun j h hj=>?_⟩
   rcases Nat.lt_or_ge j i with h1 | h1
   ·exact BM.2 j h h1
   ·obtain rfl:j=i:=by omega
    simpa using hc1
 ·try simp at hc0
  refine Ai ?_
  refine sg ?_
  refine qv A9 ?_
  refine AV ?_
  exact x1 (hr:=(Cc (by rw [jm fun j h=>BM.2 j h (by omega)])))
theorem f106 (l:List Int) (f:FuncId) (p:Int -> Bool) (hp:mq f p l) (hl:l.length < 2000000):AR Tryz.prog 106 [ints l,.fn f [] []] (.one (.dv (.bool (l.any p)))):=by
 refine Bv Tryz.func106 rfl rfl (by rw [Tryz.ntmps106];simp) fun cx hP hn hg=>?_
 rw [Tryz.ntmps106] at hn
 rw [Br,Bq]
 simp only [List.nil_append,List.append_nil,List.cons_append,BH,Nat.reduceAdd]
 refine sg ?_
 refine qv A9 ?_
 refine sg ?_
 iterate 2 refine qv A8 ?_
 refine CF (f155 l f p hp hl) ?_
 refine qv FT ?_
 refine qv A9 ?_
 refine AV ?_
 exact x1 (hr:=(Ej pR))
theorem f167 (l:List Bool) (hl:l.length < 2000000):AR Tryz.prog 167 [.list (l.map DV.bool),.bool false] (.one (.dv (i64 (if l.contains false then (l.findIdx (fun b=>b == false):Int) else -1)))):=by
 have hpos:∀ i,(h:i < l.length) -> l[i]=false -> (∀ j (h:j < l.length),j < i -> l[j]=true) -> (if l.contains false then (l.findIdx (fun b=>b == false):Int) else -1)=i:=by
  intro i hi hp hj
  rw [if_pos (List.contains_iff_mem.2 (hp ▸ List.getElem_mem hi))]
  congr 1
  exact (List.findIdx_eq hi).2 ⟨by simp [hp],fun j h=>by simp [hj j (by omega) h]⟩
 have hneg:(∀ j (h:j < l.length),l[j]=true) -> (if l.contains false then (l.findIdx (fun b=>b == false):Int) else -1)=-1:=by
  intro hj
  rw [if_neg]
  intro h
  obtain ⟨j,h2,h3⟩:=List.getElem_of_mem (List.contains_iff_mem.1 h)
  rw [hj j h2] at h3;cases h3
 refine Bv Tryz.func167 rfl rfl (by rw [Tryz.ntmps167];simp) fun cx hP hn hg=>?_
 rw [Tryz.ntmps167] at hn
 rw [Br,Bq]
 simp only [List.nil_append,List.append_nil,List.cons_append,BH,Nat.reduceAdd]
 refine sg ?_
 refine qv A9 ?_
 refine AL ?_
 refine sg ?_
 refine qv A8 ?_
 refine qv (BD zW) ?_
 refine qv A8 ?_
 refine BI ?_
 refine Ao (ι:=Nat) (fun i=>⟨lk [(0,.dv (.list ((l).map DV.bool))),(1,.dv (.bool (false))),(7,.dv (i64 ((l.length:Int)))),(8,.dv (i64 (i:Nat)))],AA []⟩) (fun i=>i <= l.length /\ ∀ j (h:j < l.length),j < i -> l[j]=true) (fun i=>l.length - i) 0 (by simp) (tl []) ?_
 intro i BM
 refine sg ?_
 refine qv BK ?_
 refine AL ?_
 refine cd (fun hc0=>?_) (fun hc0=>?_)
 ·try simp at hc0
  refine Af ?_
  refine AL ?_
  refine BI ?_
  refine sg ?_
  refine qv A8 ?_
  refine qv A9 ?_
  refine sg ?_
  iterate 3 refine qv A8 ?_
  have hin:i < l.length:=by omega
  first | refine qv (BF Eh Ga) ?_ | refine qv (Bf Eh Ga) ?_
  refine qv (Bb Ga YO) ?_
  refine qv (aN ib4) ?_
  refine cd (fun hc1=>?_) (fun hc1=>?_)
  ·try simp at hc1
   refine sg ?_
   refine qv A8 ?_
   refine qv A9 ?_
   refine AV ?_
   exact x1 (hr:=(Cc (by rw [hpos i hin (by simpa using hc1) BM.2])))
  ·try simp at hc1
   refine Af ?_
   refine rg ?_
   refine qv Aq ?_
   refine qv A8 ?_
   refine ⟨i+1,?_,(by simp only;omega),(tl [])⟩
   refine ⟨hin,fun j h hj=>?_⟩
   rcases Nat.lt_or_ge j i with h1 | h1
   ·exact BM.2 j h h1
   ·obtain rfl:j=i:=by omega
    simpa using hc1
 ·try simp at hc0
  refine Ai ?_
  refine sg ?_
  refine qv A9 ?_
  refine AV ?_
  exact x1 (hr:=(Cc (by rw [hneg fun j h=>BM.2 j h (by omega)])))
theorem f134 (l:List Bool) (hl:l.length < 2000000):AR Tryz.prog 134 [.list (l.map DV.bool),.bool false] (.one (.dv (.bool (l.contains false)))):=by
 have hd:decide (0 <= (if l.contains false then (l.findIdx (fun b=>b == false):Int) else -1))=l.contains false:=by
  split
  ·rename_i h;rw [h];simp
  ·rename_i h;simp at h ⊢;exact h
 refine Bv Tryz.func134 rfl rfl (by rw [Tryz.ntmps134];simp) fun cx hP hn hg=>?_
 rw [Tryz.ntmps134] at hn
 rw [Br,Bq]
 simp only [List.nil_append,List.append_nil,List.cons_append,BH,Nat.reduceAdd]
 refine sg ?_
 refine qv A9 ?_
 refine sg ?_
 iterate 2 refine qv A8 ?_
 refine CF (f167 l hl) ?_
 refine qv FT ?_
 refine qv A9 ?_
 refine AV ?_
 exact x1 (hr:=(Ej hd))
theorem f214 (l:List Int) (hl:l.length < 2000000):AR Tryz.prog 214 [ints l] (.one (rI l)):=by
 refine Bv Tryz.func214 rfl rfl (by rw [Tryz.ntmps214];simp) fun cx hP hn hg=>?_
 rw [Tryz.ntmps214] at hn
 rw [Br,Bq]
 simp only [List.nil_append,List.append_nil,List.cons_append,BH,Nat.reduceAdd]
 refine sg ?_
 refine qv A9 ?_
 refine sg ?_
 refine qv A8 ?_
 refine qv (BD Cj) ?_
 refine qr (TW BG Nu Aw ZY) ?_
 refine qv A9 ?_
 refine sg ?_
 iterate 2 refine qv A8 ?_
 first | refine qcp BG BG Aw ?_
 refine sg ?_
 refine qv A8 ?_
 refine qv A9 ?_
 refine AV ?_
 exact x1 (hr:=(sj))
theorem f216 (l:List Int) (hl:l.length < 1000) (hb:∀ i,i < l.length -> -100000000 <= Az l i /\ Az l i <= 100000000):AR Tryz.prog 216 [ints l] (.one (.dv (i64 (sm (Az l) l.length)))):=by
 refine Bv Tryz.func216 rfl rfl (by rw [Tryz.ntmps216];simp) fun cx hP hn hg=>?_
 rw [Tryz.ntmps216] at hn
 rw [Br,Bq]
 simp only [List.nil_append,List.append_nil,List.cons_append,BH,Nat.reduceAdd]
 refine sg ?_
 refine qv A9 ?_
 refine sg ?_
 refine qv A9 ?_
 refine AL ?_
 refine sg ?_
 refine qv A8 ?_
 refine qv (BD Cj) ?_
 refine qv A8 ?_
 refine BI ?_
 refine Ao (ι:=Nat) (fun i=>⟨lk [(3,.dv (i64 (sm (Az l) i))),(6,.dv (ints (l))),(7,.dv (i64 ((l.length:Int)))),(8,.dv (i64 (i:Nat)))],AA []⟩) (fun i=>i <= l.length /\ -(i * 100000000:Int) <= sm (Az l) i /\ sm (Az l) i <= i * 100000000) (fun i=>l.length - i) 0 (by simp [sm]) (tl [] (hF:=by simp [DK,AX,lk,AA,isLive,AZ,sm]) (hM:=by simp [Cm,Ar,AX,Aa,lk,AA,isLive,AZ,BO,BN,Al,BL,BP,BS,BQ,BR,sm])) ?_
 intro i BM
 refine sg ?_
 refine qv BK ?_
 refine AL ?_
 refine cd (fun hc0=>?_) (fun hc0=>?_)
 ·try simp at hc0
  refine Af ?_
  refine AL ?_
  refine BI ?_
  refine sg ?_
  have hin:i < l.length:=by omega
  have hgi:=Ap hin
  have hbi:=hb i hin
  first | refine qv (BF BG Aw) ?_ | refine qv (Bf BG Aw) ?_
  refine qv (Bb Aw Bw) ?_
  refine qv A9 ?_
  refine rg ?_
  iterate 2 refine qv A8 ?_
  refine qv Aq ?_
  refine qv A9 ?_
  refine rg ?_
  refine qv Aq ?_
  refine qv A8 ?_
  exact ⟨i+1,⟨hin,by simp only [sm];omega,by simp only [sm];omega⟩,(by simp only;omega),(tl [] (hF:=by simp [DK,AX,lk,AA,isLive,AZ,sm]) (hM:=by simp [Cm,Ar,AX,Aa,lk,AA,isLive,AZ,BO,BN,Al,BL,BP,BS,BQ,BR,sm]))⟩
 ·try simp at hc0
  refine Ai ?_
  refine sg ?_
  refine qv A8 ?_
  refine qv A9 ?_
  refine AV ?_
  obtain rfl:i=l.length:=by omega
  exact x1 (hr:=Cc)
theorem f60 (a b:List Int) (ha:a.length < 2000000):AR Tryz.prog 60 [ints a,ints b] (.one (.dv (.bool (a == b)))):=by
 refine Bv Tryz.func60 rfl rfl (by rw [Tryz.ntmps60];simp) fun cx hP hn hg=>?_
 rw [Tryz.ntmps60] at hn
 rw [Br,Bq]
 simp only [List.nil_append,List.append_nil,List.cons_append,BH,Nat.reduceAdd]
 refine sg ?_
 refine qv A9 ?_
 refine AL ?_
 refine sg ?_
 refine qv A8 ?_
 refine qv (BD Cj) ?_
 refine qv A8 ?_
 refine qv (BD Cj) ?_
 refine qv Ay ?_
 refine cd (fun hc0=>?_) (fun hc0=>?_)
 ·try simp at hc0
  refine sg ?_
  refine qv A9 ?_
  refine AV ?_
  exact x1 (hr:=(Ej (by rw [O5 (by intro e;exact hc0 (by exact_mod_cast e))])))
 ·try simp at hc0
  refine Af ?_
  refine AL ?_
  refine sg ?_
  refine qv A9 ?_
  refine BI ?_
  refine Ao (ι:=Nat) (fun i=>⟨lk [(0,.dv (ints (a))),(1,.dv (ints (b))),(5,.dv (i64 (i:Nat)))],AA []⟩) (fun i=>i <= a.length /\ ∀ j,j < i -> a[j]?=b[j]?) (fun i=>a.length - i) 0 (by simp) (tl []) ?_
  intro i BM
  refine AL ?_
  refine sg ?_
  iterate 2 refine qv A8 ?_
  refine qv (BD Cj) ?_
  refine qv BK ?_
  refine cd (fun hc1=>?_) (fun hc1=>?_)
  ·try simp at hc1
   refine Af ?_
   refine AL ?_
   refine BI ?_
   refine AL ?_
   refine rd mixed ?_
   have hin:i < a.length:=by omega
   have hlab:a.length=b.length:=by exact_mod_cast hc0
   have hga:=Ap hin
   have hgb:=Ap (a:=b) (show i < b.length by omega)
   iterate 2 refine zv A8 ?_
   first | refine zv (BF BG Aw) ?_ | refine zv (Bf BG Aw) ?_
   refine zv (Bb Aw Bw) ?_
   iterate 2 refine zv A8 ?_
   first | refine zv (BF BG Aw) ?_ | refine zv (Bf BG Aw) ?_
   refine zv (Bb Aw Bw) ?_
   refine zv Ay ?_
   refine ⟨by rfl,?_⟩
   refine cd (fun hc2=>?_) (fun hc2=>?_)
   ·try simp only [bne_iff_ne,ne_eq,bne_eq_false_iff_eq,Decidable.not_not] at hc2
    refine sg ?_
    refine qv A9 ?_
    refine AV ?_
    exact x1 (hr:=(Ej (by rw [Uh hga hgb hc2])))
   ·try simp only [bne_iff_ne,ne_eq,bne_eq_false_iff_eq,Decidable.not_not] at hc2
    refine Af ?_
    refine rg ?_
    refine qv A8 ?_
    refine qv Aq ?_
    refine qv A9 ?_
    refine ⟨i+1,?_,(by simp only;omega),(tl [])⟩
    refine ⟨hin,fun j hj=>?_⟩
    rcases Nat.lt_or_ge j i with h1 | h1
    ·exact BM.2 j h1
    ·obtain rfl:j=i:=by omega
     rw [hga,hgb,hc2]
  ·try simp at hc1
   refine Ai ?_
   refine sg ?_
   refine qv A9 ?_
   refine AV ?_
   exact x1 (hr:=(Ej (by rw [QW (by exact_mod_cast hc0) fun j hj=>BM.2 j (by omega)])))
end Go.Ab.Tryz.H
namespace Go.Ab.Tryz.H
open Go Go.Ab Go.Ab.Tryz Go.Proofs Go.Ab.Heap
theorem Zm {h:Hp} (hh:¬ (1 <= h.ground.length /\ h.ground.length <= 5 /\ h.links.length=h.ground.length)):FR h=false:=by
 cases e:FR h with
 | false=>rfl
 | true=>exact absurd (H6.1 e).1 hh
theorem UQ {h:Hp} {i:Nat} (hi:i < h.ground.length) (hr:(Gn h i).length ≠ h.ground.length):FR h=false:=by
 cases e:FR h with
 | false=>rfl
 | true=>exact absurd ((H6.1 e).2.1 i hi) hr
theorem MO {h:Hp} {i:Nat} (hi:i < h.ground.length) (hr:Gh h i=false):FR h=false:=by
 cases e:FR h with
 | false=>rfl
 | true =>
  have:=(H6.1 e).2.2 i hi
  have h2:Gh h i=true:=by simp only [Gh,Km,Bool.and_eq_true,decide_eq_true_eq,beq_iff_eq];exact ⟨this.1,this.2.1⟩
  rw [h2] at hr;cases hr
theorem MN {h:Hp} {i k:Nat} (hi:i < h.ground.length) (hk:k < h.ground.length) (hr:Ef h i k=false):FR h=false:=by
 cases e:FR h with
 | false=>rfl
 | true =>
  have:=((H6.1 e).2.2 i hi).2.2 k hk
  have h2:Ef h i k=true:=by simp only [Ef,Km,Bool.and_eq_true,decide_eq_true_eq,beq_iff_eq];exact this
  rw [h2] at hr;cases hr
theorem YV {h:Hp} {i k:Nat} (hi:i < h.ground.length) (e:i=k) (hr:¬ Iy h i k=0):FR h=false:=by
 subst e
 exact MO hi (by simp only [Gh,Bool.and_eq_false_iff,beq_eq_false_iff_ne];exact .inr hr)
theorem JR {h:Hp} (e:FR h=false):validate h=1:=by simp [validate,e]
theorem Vs {h:Hp} (e:FR h=true):validate h=if (KC h h.ground.length).contains false then 9 else 0:=by simp [validate,e]
theorem HZ {h:Hp} (e:FR h=false):Gy h=1:=by simp [Gy,e]
theorem Sn {h:Hp} (e:FR h=true):Gy h=if (Ev h (h.ground.length+1)).contains false then 9 else 0:=by simp [Gy,e]
theorem Wn {h:Hp} (h1:1 <= h.ground.length /\ h.ground.length <= 5 /\ h.links.length=h.ground.length) (h2:∀ i,i < h.ground.length -> (Gn h i).length=h.ground.length) (h3:∀ i,i < h.ground.length -> Gh h i=true /\ ∀ k,k < h.ground.length -> Ef h i k=true):FR h=true:=by
 refine H6.2 ⟨h1,h2,fun i hi=>?_⟩
 obtain ⟨a,b⟩:=h3 i hi
 simp only [Gh,Km,Bool.and_eq_true,decide_eq_true_eq,beq_iff_eq] at a
 refine ⟨a.1,a.2,fun k hk=>?_⟩
 have:=b k hk
 simp only [Ef,Km,Bool.and_eq_true,decide_eq_true_eq,beq_iff_eq] at this
 exact this
theorem Ux {h:Hp} (h1:h.links.length=h.ground.length) {i:Nat} (hi:i < h.ground.length):h.links[i]?=some (Gn h i):=by
 unfold Gn
 rw [List.getD_eq_getElem?_getD,List.getElem?_eq_getElem (by omega)];rfl
theorem Ot {h:Hp} {i k:Nat} (h2:(Gn h i).length=h.ground.length) (hk:k < h.ground.length):(Gn h i)[k]?=some (Iy h i k):=by
 unfold Iy
 rw [List.getD_eq_getElem?_getD (l:=Gn h i),List.getElem?_eq_getElem (by omega)];rfl
theorem Im {d:List Bool} {i:Nat} (hi:i < d.length):d[i]?=some (MH d i):=by
 unfold MH
 rw [List.getD_eq_getElem?_getD,List.getElem?_eq_getElem hi];rfl
theorem f166 (h:Hp) (v:VH h) (i:Nat) (hi:i < h.ground.length):AR Tryz.prog 166 [GX h,i64 (i:Int)] (.one (.dv (i64 (h.sp.lim i)))):=by
 have hgg:=NP hi
 have hgl:=v.get hi
 have hrl:=v.row i hi
 have hgb:=v.gb i hi
 have h5:=v.n5
 refine Bv Tryz.func166 rfl rfl (by rw [Tryz.ntmps166];simp) fun cx hP hn hg=>?_
 rw [Tryz.ntmps166] at hn
 rw [Br,Bq]
 simp only [List.nil_append,List.append_nil,List.cons_append,BH,Nat.reduceAdd]
 refine sg ?_
 refine qp Bu ?_
 refine qv A9 ?_
 refine sg ?_
 refine qv (AB FK) ?_
 refine qv (AQ Av Bz) ?_
 refine qv A8 ?_
 first | refine qv (BF BG Aw) ?_ | refine qv (Bf BG Aw) ?_
 refine qv (Bb Aw Bw) ?_
 refine qv A9 ?_
 refine AL ?_
 refine sg ?_
 refine qv (AB EA) ?_
 refine qv (AQ DJ DW) ?_
 refine qv A8 ?_
 first | refine qv (BF CJ Av) ?_ | refine qv (Bf CJ Av) ?_
 refine qv (Bb Av Bz) ?_
 refine qv (BD Cj) ?_
 refine qv A8 ?_
 refine BI ?_
 refine Ao (ι:=Nat) (fun k=>⟨lk [(5,.dv (i64 (Ow h i+sm (Iy h i) k))),(17,.dv (ints (Gn h i))),(18,.dv (i64 (((Gn h i).length:Int)))),(19,.dv (i64 (k:Nat)))],AA []⟩) (fun k=>k <= h.ground.length /\ 0 <= sm (Iy h i) k /\ sm (Iy h i) k <= 2 * k) (fun k=>h.ground.length - k) 0 (by simp [sm]) (tl [] (hF:=by simp [DK,AX,lk,AA,isLive,AZ,sm]) (hM:=by simp [Cm,Ar,AX,Aa,lk,AA,isLive,AZ,BO,BN,Al,BL,BP,BS,BQ,BR,sm])) ?_
 intro k BM
 refine sg ?_
 refine qv BK ?_
 refine AL ?_
 refine cd (fun hc0=>?_) (fun hc0=>?_)
 ·try simp at hc0
  refine Af ?_
  refine AL ?_
  refine BI ?_
  refine sg ?_
  have hk:k < h.ground.length:=by omega
  have hl2:=v.qJ hi hk
  have hlb:=v.lb i k hi hk
  first | refine qv (BF BG Aw) ?_ | refine qv (Bf BG Aw) ?_
  refine qv (Bb Aw Bw) ?_
  refine qv A9 ?_
  refine rg ?_
  iterate 2 refine qv A8 ?_
  refine qv Aq ?_
  refine qv A9 ?_
  refine rg ?_
  refine qv Aq ?_
  refine qv A8 ?_
  exact ⟨k+1,⟨hk,by simp only [sm];omega,by simp only [sm];omega⟩,(by simp only;omega),(tl [] (hF:=by simp [DK,AX,lk,AA,isLive,AZ,sm,Int.add_assoc]) (hM:=by simp [Cm,Ar,AX,Aa,lk,AA,isLive,AZ,BO,BN,Al,BL,BP,BS,BQ,BR,sm,Int.add_assoc]))⟩
 ·try simp at hc0
  refine Ai ?_
  refine sg ?_
  refine qv A8 ?_
  refine qv A9 ?_
  refine AV ?_
  obtain rfl:k=h.ground.length:=by omega
  exact x1 (hr:=Cc)
set_option maxHeartbeats 4000000 in
theorem f94 (h:Hp):AR Tryz.prog 94 [GX h] (.one (.dv (i64 (validate h)))):=by
 refine Bv Tryz.func94 rfl rfl (by rw [Tryz.ntmps94];simp) fun cx hP hn hg=>?_
 rw [Tryz.ntmps94] at hn
 rw [Br,Bq]
 simp only [List.nil_append,List.append_nil,List.cons_append,BH,Nat.reduceAdd]
 refine sg ?_
 refine qp Bu ?_
 refine qv A9 ?_
 refine sg ?_
 refine qv (AB FK) ?_
 refine qv (AQ Av Bz) ?_
 refine qv (BD Cj) ?_
 refine qv A9 ?_
 refine AL ?_
 refine sg ?_
 refine qv A8 ?_
 refine CF (f133 (h.ground.length) 1 5) ?_
 refine qv CP ?_
 refine qx A8 (fun XV=>?_) (fun XV=>?_)
 ·try simp at XV
  iterate 5 refine qk ?_
  refine qv Ae ?_
  refine G5 (hb:=by first | rfl | simp | simp_all) (ht:=?_)
  refine sg ?_
  refine qv A9 ?_
  refine AV ?_
  exact x1 (hr:=(Cc (by rw [JR (Zm (by rintro ⟨a,b,c⟩;simp_all [Km];try omega))])))
 ·try simp at XV
  refine qv (AB EA) ?_
  refine qv (AQ DJ DW) ?_
  refine qv (BD KO) ?_
  refine qv A8 ?_
  refine qv Ay ?_
  refine qv Ae ?_
  refine cd (fun hc0=>?_) (fun hc0=>?_)
  ·try simp at hc0
   refine sg ?_
   refine qv A9 ?_
   refine AV ?_
   exact x1 (hr:=(Cc (by rw [JR (Zm (by rintro ⟨a,b,c⟩;simp_all [Km];try omega))])))
  ·try simp at hc0
   have hn:1 <= h.ground.length /\ h.ground.length <= 5 /\ h.links.length=h.ground.length:=by
    simp only [Km,Bool.and_eq_true,decide_eq_true_eq] at XV
    exact ⟨by omega,by omega,by omega⟩
   refine Af ?_
   refine AL ?_
   refine sg ?_
   iterate 2 refine qv A8 ?_
   refine BI ?_
   refine Ao (ι:=Nat) (fun i=>⟨lk [(1,.pt 1 0 0),(3,.dv (i64 ((h.ground.length:Int)))),(23,.dv (i64 ((h.ground.length:Int)))),(24,.dv (i64 (i:Nat)))],AA [(1,0,some ⟨[.dv (.list ((h.links).map ints)),.dv (ints (h.ground))],0,27,0,false⟩)]⟩) (fun i=>i <= h.ground.length /\ ∀ j,j < i -> (Gn h j).length=h.ground.length) (fun i=>h.ground.length - i) 0 (by simp) (tl [(1,1)]) ?_
   intro i BM
   refine sg ?_
   refine qv BK ?_
   refine AL ?_
   refine cd (fun hc1=>?_) (fun hc1=>?_)
   ·try simp at hc1
    refine Af ?_
    refine AL ?_
    refine BI ?_
    refine sg ?_
    refine qv A8 ?_
    refine qv A9 ?_
    refine sg ?_
    have hi0:i < h.ground.length:=by omega
    have hgl:=Ux hn.2.2 hi0
    refine qv (AB EA) ?_
    refine qv (AQ DJ DW) ?_
    refine qv A8 ?_
    first | refine qv (BF CJ Av) ?_ | refine qv (Bf CJ Av) ?_
    refine qv (Bb Av Bz) ?_
    refine qv (BD Cj) ?_
    refine qv A8 ?_
    refine qv Ay ?_
    refine cd (fun hc2=>?_) (fun hc2=>?_)
    ·try simp at hc2
     refine sg ?_
     refine qv A9 ?_
     refine AV ?_
     exact x1 (hr:=(Cc (by rw [JR (UQ hi0 (by exact_mod_cast hc2))])))
    ·try simp at hc2
     refine Af ?_
     refine rg ?_
     refine qv Aq ?_
     refine qv A8 ?_
     refine ⟨i+1,?_,(by simp only;omega),(tl [(1,1)])⟩
     refine ⟨by omega,fun j hj=>?_⟩
     rcases Nat.lt_or_ge j i with h1 | h1
     ·exact BM.2 j h1
     ·obtain rfl:j=i:=by omega
      exact_mod_cast hc2
   ·try simp at hc1
    refine Ai ?_
    refine AL ?_
    refine sg ?_
    have hrow:∀ j,j < h.ground.length -> (Gn h j).length=h.ground.length:=fun j hj=>BM.2 j (by omega)
    iterate 2 refine qv A8 ?_
    refine BI ?_
    refine Ao (ι:=Nat) (fun i=>⟨lk [(1,.pt 1 0 0),(3,.dv (i64 ((h.ground.length:Int)))),(36,.dv (i64 ((h.ground.length:Int)))),(37,.dv (i64 (i:Nat)))],AA [(1,0,some ⟨[.dv (.list ((h.links).map ints)),.dv (ints (h.ground))],0,27,0,false⟩)]⟩) (fun i=>i <= h.ground.length /\ ∀ j,j < i -> Gh h j=true /\ ∀ k,k < h.ground.length -> Ef h j k=true) (fun i=>h.ground.length - i) 0 (by simp) (tl [(1,1)]) ?_
    intro i IL
    refine sg ?_
    refine qv BK ?_
    refine AL ?_
    refine cd (fun hc3=>?_) (fun hc3=>?_)
    ·try simp at hc3
     refine Af ?_
     refine AL ?_
     refine BI ?_
     refine sg ?_
     refine qv A8 ?_
     refine qv A9 ?_
     refine AL ?_
     refine sg ?_
     have hi1:i < h.ground.length:=by omega
     have hgl:=Ux hn.2.2 hi1
     have hgg:=NP hi1
     have hll:=Ot (hrow i hi1) hi1
     refine qv (AB FK) ?_
     refine qv (AQ Av Bz) ?_
     refine qv A8 ?_
     first | refine qv (BF BG Aw) ?_ | refine qv (Bf BG Aw) ?_
     refine qv (Bb Aw Bw) ?_
     refine CF (f133 (Ow h i) 0 2) ?_
     refine qv CP ?_
     refine qx A8 (fun qE=>?_) (fun qE=>?_)
     ·try simp at qE
      iterate 9 refine qk ?_
      refine qv Ae ?_
      refine G5 (hb:=by first | rfl | simp | simp_all) (ht:=?_)
      refine sg ?_
      refine qv A9 ?_
      refine AV ?_
      exact x1 (hr:=(Cc (by rw [JR (MO hi1 (by simp_all [Gh]))])))
     ·try simp at qE
      refine qv (AB EA) ?_
      refine qv (AQ DJ DW) ?_
      refine qv A8 ?_
      first | refine qv (BF CJ Av) ?_ | refine qv (Bf CJ Av) ?_
      refine qv (Bb Av Bz) ?_
      refine qv A8 ?_
      first | refine qv (BF BG Aw) ?_ | refine qv (Bf BG Aw) ?_
      refine qv (Bb Aw Bw) ?_
      refine qv Ay ?_
      refine qv Ae ?_
      refine cd (fun hc4=>?_) (fun hc4=>?_)
      ·try simp at hc4
       refine sg ?_
       refine qv A9 ?_
       refine AV ?_
       exact x1 (hr:=(Cc (by rw [JR (MO hi1 (by simp_all [Gh]))])))
      ·try simp at hc4
       have hgo:Gh h i=true:=by
        simp only [Gh,Bool.and_eq_true,beq_iff_eq]
        exact ⟨by simpa using qE,by simpa using hc4⟩
       refine Af ?_
       refine sg ?_
       iterate 2 refine qv A8 ?_
       refine BI ?_
       refine Ao (ι:=Nat) (fun k=>⟨lk [(1,.pt 1 0 0),(3,.dv (i64 ((h.ground.length:Int)))),(5,.dv (i64 (i:Nat))),(36,.dv (i64 ((h.ground.length:Int)))),(37,.dv (i64 (i:Nat))),(58,.dv (i64 ((h.ground.length:Int)))),(59,.dv (i64 (k:Nat)))],AA [(1,0,some ⟨[.dv (.list ((h.links).map ints)),.dv (ints (h.ground))],0,27,0,false⟩)]⟩) (fun k=>k <= h.ground.length /\ ∀ j,j < k -> Ef h i j=true) (fun k=>h.ground.length - k) 0 (by simp) (tl [(1,1)]) ?_
       intro k eu
       refine sg ?_
       refine qv BK ?_
       refine AL ?_
       refine cd (fun YN=>?_) (fun YN=>?_)
       ·try simp at YN
        refine Af ?_
        refine AL ?_
        refine BI ?_
        refine sg ?_
        refine qv A8 ?_
        refine qv A9 ?_
        refine AL ?_
        have hk2:k < h.ground.length:=by omega
        have hgk:=Ux hn.2.2 hk2
        have hl2:=Ot (hrow i hi1) hk2
        have hl3:=Ot (hrow k hk2) hi1
        refine rd mixed ?_
        refine zv (AB EA) ?_
        refine zv (AQ DJ DW) ?_
        refine zv A8 ?_
        first | refine zv (BF CJ Av) ?_ | refine zv (Bf CJ Av) ?_
        refine zv (Bb Av Bz) ?_
        refine zv A8 ?_
        first | refine zv (BF BG Aw) ?_ | refine zv (Bf BG Aw) ?_
        refine zv (Bb Aw Bw) ?_
        refine Kz (R:=[]) (f133 (Iy h i k) 0 2) ?_
        refine zv CP ?_
        refine zx A8 (fun wH=>?_) (fun wH=>?_)
        ·try simp at wH
         iterate 17 refine zk ?_
         refine zv Ae ?_
         refine ⟨by rfl,?_⟩
         refine G5 (hb:=by first | rfl | simp | simp_all) (ht:=?_)
         refine sg ?_
         refine qv A9 ?_
         refine AV ?_
         exact x1 (hr:=(Cc (by rw [JR (MN hi1 hk2 (by simp_all [Ef]))])))
        ·try simp at wH
         refine zv (AB EA) ?_
         refine zv (AQ DJ DW) ?_
         refine zv A8 ?_
         first | refine zv (BF CJ Av) ?_ | refine zv (Bf CJ Av) ?_
         refine zv (Bb Av Bz) ?_
         refine zv A8 ?_
         first | refine zv (BF BG Aw) ?_ | refine zv (Bf BG Aw) ?_
         refine zv (Bb Aw Bw) ?_
         refine zv (AB EA) ?_
         refine zv (AQ DJ DW) ?_
         refine zv A8 ?_
         first | refine zv (BF CJ Av) ?_ | refine zv (Bf CJ Av) ?_
         refine zv (Bb Av Bz) ?_
         refine zv A8 ?_
         first | refine zv (BF BG Aw) ?_ | refine zv (Bf BG Aw) ?_
         refine zv (Bb Aw Bw) ?_
         refine zv Ay ?_
         refine zv Ae ?_
         refine ⟨by rfl,?_⟩
         refine cd (fun hc6=>?_) (fun hc6=>?_)
         ·try simp at hc6
          refine sg ?_
          refine qv A9 ?_
          refine AV ?_
          exact x1 (hr:=(Cc (by rw [JR (MN hi1 hk2 (by simp_all [Ef]))])))
         ·try simp at hc6
          refine Af ?_
          refine rg ?_
          refine qv Aq ?_
          refine qv A8 ?_
          refine ⟨k+1,?_,(by simp only;omega),(tl [(1,1)])⟩
          refine ⟨by omega,fun j hj=>?_⟩
          rcases Nat.lt_or_ge j k with h1 | h1
          ·exact eu.2 j h1
          ·obtain rfl:j=k:=by omega
           simp_all [Ef,Km];try omega
       ·try simp at YN
        refine Ai ?_
        refine rg ?_
        refine qv Aq ?_
        refine qv A8 ?_
        refine ⟨i+1,?_,(by simp only;omega),(tl [(1,1)])⟩
        refine ⟨by omega,fun j hj=>?_⟩
        rcases Nat.lt_or_ge j i with h1 | h1
        ·exact IL.2 j h1
        ·obtain rfl:j=i:=by omega
         exact ⟨hgo,fun k hk=>eu.2 k (by omega)⟩
    ·try simp at hc3
     refine Ai ?_
     refine sg ?_
     refine qv A8 ?_
     have hok:FR h=true:=Wn hn hrow fun j hj=>IL.2 j (by omega)
     refine qr (tH Eh ze4 Ga by4) ?_
     refine qv A9 ?_
     refine AL ?_
     refine sg ?_
     iterate 2 refine qv A8 ?_
     refine BI ?_
     refine Ao (ι:=Nat) (fun r=>⟨lk [(1,.pt 1 0 0),(3,.dv (i64 ((h.ground.length:Int)))),(7,.sl 7 0 0 h.ground.length),(95,.dv (i64 ((h.ground.length:Int)))),(96,.dv (i64 (r:Nat)))],AA [(1,0,some ⟨[.dv (.list ((h.links).map ints)),.dv (ints (h.ground))],0,27,0,false⟩),(7,0,some (SI 4 (KC h r)))]⟩) (fun r=>r <= h.ground.length) (fun r=>h.ground.length - r) 0 (by simp) (tl [(1,1),(7,94)] (hF:=by simp [DK,AX,lk,AA,isLive,AZ,KC,Int.toNat_natCast]) (hM:=by simp [Cm,Ar,AX,Aa,lk,AA,isLive,AZ,BO,BN,Al,BL,BP,BS,BQ,BR,KC,Int.toNat_natCast])) ?_
     intro r hφ3
     refine sg ?_
     refine qv BK ?_
     refine AL ?_
     refine cd (fun Xb=>?_) (fun Xb=>?_)
     ·try simp at Xb
      have hr3:r < h.ground.length:=by exact_mod_cast Xb
      refine Af ?_
      refine AL ?_
      refine BI ?_
      refine sg ?_
      iterate 2 refine qv A8 ?_
      refine BI ?_
      refine Ao (ι:=Nat) (fun i=>⟨lk [(1,.pt 1 0 0),(3,.dv (i64 ((h.ground.length:Int)))),(7,.sl 7 0 0 h.ground.length),(95,.dv (i64 ((h.ground.length:Int)))),(96,.dv (i64 (r:Nat))),(98,.dv (i64 ((h.ground.length:Int)))),(99,.dv (i64 (i:Nat)))],AA [(1,0,some ⟨[.dv (.list ((h.links).map ints)),.dv (ints (h.ground))],0,27,0,false⟩),(7,0,some (SI 4 (PX h (KC h r) i)))]⟩) (fun i=>i <= h.ground.length) (fun i=>h.ground.length - i) 0 (by simp) (tl [(1,1),(7,7)] (hF:=by simp [DK,AX,lk,AA,isLive,AZ,PX]) (hM:=by simp [Cm,Ar,AX,Aa,lk,AA,isLive,AZ,BO,BN,Al,BL,BP,BS,BQ,BR,PX])) ?_
      intro i hφ4
      refine sg ?_
      refine qv BK ?_
      refine AL ?_
      refine cd (fun hc8=>?_) (fun hc8=>?_)
      ·try simp at hc8
       have hi4:i < h.ground.length:=by exact_mod_cast hc8
       have hgl:=Ux hn.2.2 hi4
       have hgg:=NP hi4
       refine Af ?_
       refine AL ?_
       refine BI ?_
       refine sg ?_
       refine qv A8 ?_
       refine qv A9 ?_
       refine sg ?_
       iterate 2 refine qv A8 ?_
       refine BI ?_
       refine Ao (ι:=Nat) (fun k=>⟨lk [(1,.pt 1 0 0),(3,.dv (i64 ((h.ground.length:Int)))),(7,.sl 7 0 0 h.ground.length),(8,.dv (i64 (i:Nat))),(95,.dv (i64 ((h.ground.length:Int)))),(96,.dv (i64 (r:Nat))),(98,.dv (i64 ((h.ground.length:Int)))),(99,.dv (i64 (i:Nat))),(102,.dv (i64 ((h.ground.length:Int)))),(103,.dv (i64 (k:Nat)))],AA [(1,0,some ⟨[.dv (.list ((h.links).map ints)),.dv (ints (h.ground))],0,27,0,false⟩),(7,0,some (SI 4 (inn h (PX h (KC h r) i) i k)))]⟩) (fun k=>k <= h.ground.length) (fun k=>h.ground.length - k) 0 (by simp) (tl [(1,1),(7,7)] (hF:=by simp [DK,AX,lk,AA,isLive,AZ,inn]) (hM:=by simp [Cm,Ar,AX,Aa,lk,AA,isLive,AZ,BO,BN,Al,BL,BP,BS,BQ,BR,inn])) ?_
       intro k zY
       refine sg ?_
       refine qv BK ?_
       refine AL ?_
       refine cd (fun qH=>?_) (fun qH=>?_)
       ·try simp at qH
        have hk5:k < h.ground.length:=by exact_mod_cast qH
        have hl2:=Ot (hrow i hi4) hk5
        have hil:=Ij (h:=h) (d:=PX h (KC h r) i) (i:=i) k
        rw [JZ,JX] at hil
        have hbi:=Im (d:=inn h (PX h (KC h r) i) i k) (i:=i) (by omega)
        have hbk:=Im (d:=inn h (PX h (KC h r) i) i k) (i:=k) (by omega)
        refine Af ?_
        refine AL ?_
        refine BI ?_
        refine sg ?_
        refine qv A8 ?_
        refine qv A9 ?_
        refine rg ?_
        iterate 4 refine qv A8 ?_
        refine qv (CR Eh Ga) ?_
        refine qv (Oq Ga YO (hq:=hbi)) ?_
        refine qx A8 (fun kE=>?_) (fun kE=>?_)
        ·try simp at kE
         iterate 6 refine qk ?_
         refine qv Ae ?_
         refine qv A8 ?_
         iterate 15 refine qk ?_
         refine qv Ae ?_
         refine qv (CR Eh Ga) ?_
         have hneg:Ow h i <= 0 -> decide (0 < Ow h i)=false:=fun hh=>decide_eq_false (by omega)
         refine qs (Jt Ga) ?_
         refine rg ?_
         refine qv Aq ?_
         refine qv A8 ?_
         exact ⟨k+1,hk5,(by simp only;omega),(tl [(1,1),(7,7)] (hF:=by simp [DK,AX,lk,AA,isLive,AZ,inn, *]) (hM:=by simp [Cm,Ar,AX,Aa,lk,AA,isLive,AZ,BO,BN,Al,BL,BP,BS,BQ,BR,inn, *]))⟩
        ·try simp at kE
         refine qv (AB FK) ?_
         refine qv (AQ Av Bz) ?_
         refine qv A8 ?_
         first | refine qv (BF BG Aw) ?_ | refine qv (Bf BG Aw) ?_
         refine qv (Bb Aw Bw) ?_
         refine qv Dk ?_
         refine qv Ae ?_
         refine qx A8 (fun R8=>?_) (fun R8=>?_)
         ·try simp at R8
          iterate 15 refine qk ?_
          refine qv Ae ?_
          refine qv (CR Eh Ga) ?_
          have hneg:Ow h i <= 0 -> decide (0 < Ow h i)=false:=fun hh=>decide_eq_false (by omega)
          refine qs (Jt Ga) ?_
          refine rg ?_
          refine qv Aq ?_
          refine qv A8 ?_
          exact ⟨k+1,hk5,(by simp only;omega),(tl [(1,1),(7,7)] (hF:=by simp [DK,AX,lk,AA,isLive,AZ,inn, *]) (hM:=by simp [Cm,Ar,AX,Aa,lk,AA,isLive,AZ,BO,BN,Al,BL,BP,BS,BQ,BR,inn, *]))⟩
         ·try simp at R8
          iterate 2 refine qv A8 ?_
          refine qv (CR Eh Ga) ?_
          refine qv (Oq Ga YO (hq:=hbk)) ?_
          refine qx A8 (fun NN=>?_) (fun NN=>?_)
          ·try simp at NN
           refine qv (AB EA) ?_
           refine qv (AQ DJ DW) ?_
           refine qv A8 ?_
           first | refine qv (BF CJ Av) ?_ | refine qv (Bf CJ Av) ?_
           refine qv (Bb Av Bz) ?_
           refine qv A8 ?_
           first | refine qv (BF BG Aw) ?_ | refine qv (Bf BG Aw) ?_
           refine qv (Bb Aw Bw) ?_
           refine qv Dk ?_
           iterate 2 refine qv Ae ?_
           refine qv (CR Eh Ga) ?_
           have hneg:Ow h i <= 0 -> decide (0 < Ow h i)=false:=fun hh=>decide_eq_false (by omega)
           refine qs (Jt Ga) ?_
           refine rg ?_
           refine qv Aq ?_
           refine qv A8 ?_
           exact ⟨k+1,hk5,(by simp only;omega),(tl [(1,1),(7,7)] (hF:=by simp [DK,AX,lk,AA,isLive,AZ,inn, *]) (hM:=by simp [Cm,Ar,AX,Aa,lk,AA,isLive,AZ,BO,BN,Al,BL,BP,BS,BQ,BR,inn, *]))⟩
          ·try simp at NN
           iterate 9 refine qk ?_
           iterate 2 refine qv Ae ?_
           refine qv (CR Eh Ga) ?_
           have hneg:Ow h i <= 0 -> decide (0 < Ow h i)=false:=fun hh=>decide_eq_false (by omega)
           refine qs (Jt Ga) ?_
           refine rg ?_
           refine qv Aq ?_
           refine qv A8 ?_
           exact ⟨k+1,hk5,(by simp only;omega),(tl [(1,1),(7,7)] (hF:=by simp [DK,AX,lk,AA,isLive,AZ,inn, *]) (hM:=by simp [Cm,Ar,AX,Aa,lk,AA,isLive,AZ,BO,BN,Al,BL,BP,BS,BQ,BR,inn, *]))⟩
       ·try simp at qH
        have hps:PX h (KC h r) (i+1)=inn h (PX h (KC h r) i) i k:=by rw [show k=h.ground.length by omega];rfl
        refine Ai ?_
        refine rg ?_
        refine qv Aq ?_
        refine qv A8 ?_
        exact ⟨i+1,hi4,(by simp only;omega),(tl [(1,1),(7,7)] (hF:=by simp [DK,AX,lk,AA,isLive,AZ,hps]) (hM:=by simp [Cm,Ar,AX,Aa,lk,AA,isLive,AZ,BO,BN,Al,BL,BP,BS,BQ,BR,hps]))⟩
      ·try simp at hc8
       have hrd:KC h (r+1)=PX h (KC h r) i:=by rw [show i=h.ground.length by omega];rfl
       refine Ai ?_
       refine rg ?_
       refine qv Aq ?_
       refine qv A8 ?_
       exact ⟨r+1,hr3,(by simp only;omega),(tl [(1,1),(7,7)] (hF:=by simp [DK,AX,lk,AA,isLive,AZ,hrd]) (hM:=by simp [Cm,Ar,AX,Aa,lk,AA,isLive,AZ,BO,BN,Al,BL,BP,BS,BQ,BR,hrd]))⟩
     ·try simp at Xb
      obtain rfl:r=h.ground.length:=by omega
      refine Ai ?_
      refine AL ?_
      refine sg ?_
      refine qv A8 ?_
      refine CF (f134 (KC h h.ground.length) (by rw [JX];omega)) ?_ (ha:=(CV (ZT (L:=KC h h.ground.length) (by simp only [AA,reduceIte,Nat.reduceEqDiff]<;>rfl) trivial (JX _) (fun _=>trivial)) (CV Bo FI)))
      refine cd (fun Xc=>?_) (fun Xc=>?_)
      ·skip
       refine sg ?_
       refine qv A9 ?_
       refine AV ?_
       exact x1 (hr:=(Cc (by rw [Vs hok,if_pos Xc])))
      ·skip
       refine Af ?_
       refine sg ?_
       refine qv A9 ?_
       refine AV ?_
       exact x1 (hr:=(Cc (by rw [Vs hok,if_neg (by rw [Xc];simp)])))
end Go.Ab.Tryz.H
