/- Ab23, Ab24. -/
import Derived.Test.YtjcecljhjailiaaGreatDoorBogG05
set_option linter.unusedVariables false
namespace Go.Ab
open Go.RowKit
theorem wrap_i64 {n:Int} (h1:-9223372036854775808 <= n) (h2:n < 9223372036854775808):IntKind.i64.wrap n=n:=by
 have e:IntKind.i64.wrap n=(n+9223372036854775808) % 18446744073709551616 - 9223372036854775808:=by
  simp only [IntKind.wrap,IntKind.bits,IntKind.signed]
  first
  | rfl
  | (simp;omega)
 rw [e]
 omega
section
variable {P:Program} {S:St} {x y z c:Operand} {t e ty ty':TypeId} {k k':IntKind} {a b n:Int} {r s:SV} {ob:Option Au} {blk:Au} {f off:Nat} {cs ds:List DV} {l:List DV} {tg g o len sz by':Nat} {bb cc:Bool}
theorem I6 (h:S.ev x=r):AP P S (.move x)=some (.val r):=by simp only [AP,h]
theorem EJ (h:S.ev x=r):AP P S (.assign x)=some (.val r):=by simp only [AP,h]
theorem wo (hc:S.ev c=.dv (.bool bb)) (hx:S.ev x=r) (hy:S.ev y=s) {q:SV} (hq:O8 bb r s=q):AP P S (.pick c x y)=some (.val q):=by simp only [AP,hc,hx,hy,hq]
theorem KT {op:BinOp} {d:DV} (hx:S.ev x=.dv (.int k a)) (hy:S.ev y=.dv (.int k b)) (hop:op ≠ .shl /\ op ≠ .shr) (h:DU op k a b=some d):AP P S (.binOp op t x y ty)=some (.val (.dv d)):=by
 simp only [AP,hx,hy,Dj]
 cases op<;>simp_all
theorem A17 (hx:S.ev x=.dv (.int .i64 a)) (hy:S.ev y=.dv (.int .i64 b)) (h1:-9223372036854775808 <= a+b) (h2:a+b < 9223372036854775808):AP P S (.binOp .add t x y ty)=some (.val (.dv (.int .i64 (a+b)))) :=
 KT hx hy (by simp) (by simp only [DU,wrap_i64 h1 h2])
theorem A0S (hx:S.ev x=.dv (.int .i64 a)) (hy:S.ev y=.dv (.int .i64 b)) (h1:-9223372036854775808 <= a - b) (h2:a - b < 9223372036854775808):AP P S (.binOp .sub t x y ty)=some (.val (.dv (.int .i64 (a - b)))) :=
 KT hx hy (by simp) (by simp only [DU,wrap_i64 h1 h2])
theorem A0X (hx:S.ev x=.dv (.int .i64 a)) (hy:S.ev y=.dv (.int .i64 b)) (h1:-9223372036854775808 <= a * b) (h2:a * b < 9223372036854775808):AP P S (.binOp .mul t x y ty)=some (.val (.dv (.int .i64 (a * b)))) :=
 KT hx hy (by simp) (by simp only [DU,wrap_i64 h1 h2])
theorem A14 (hx:S.ev x=.dv (.int k a)) (hy:S.ev y=.dv (.int k b)):AP P S (.binOp .eql t x y ty)=some (.val (.dv (.bool (a == b)))):=KT hx hy (by simp) rfl
theorem A0W (hx:S.ev x=.dv (.int k a)) (hy:S.ev y=.dv (.int k b)):AP P S (.binOp .neq t x y ty)=some (.val (.dv (.bool (a != b)))):=KT hx hy (by simp) rfl
theorem A0Z (hx:S.ev x=.dv (.int k a)) (hy:S.ev y=.dv (.int k b)):AP P S (.binOp .lss t x y ty)=some (.val (.dv (.bool (decide (a < b))))):=KT hx hy (by simp) rfl
theorem A10 (hx:S.ev x=.dv (.int k a)) (hy:S.ev y=.dv (.int k b)):AP P S (.binOp .leq t x y ty)=some (.val (.dv (.bool (decide (a <= b))))):=KT hx hy (by simp) rfl
theorem A12 (hx:S.ev x=.dv (.int k a)) (hy:S.ev y=.dv (.int k b)):AP P S (.binOp .gtr t x y ty)=some (.val (.dv (.bool (decide (b < a))))):=KT hx hy (by simp) rfl
theorem A13 (hx:S.ev x=.dv (.int k a)) (hy:S.ev y=.dv (.int k b)):AP P S (.binOp .geq t x y ty)=some (.val (.dv (.bool (decide (b <= a))))):=KT hx hy (by simp) rfl
theorem A0U (hx:S.ev x=.dv (.int .i64 a)) (hy:S.ev y=.dv (.int .i64 b)) (h0:b ≠ 0) (h1:-9223372036854775808 <= a.tdiv b) (h2:a.tdiv b < 9223372036854775808):AP P S (.binOp .quo t x y ty)=some (.val (.dv (.int .i64 (a.tdiv b)))) :=
 KT hx hy (by simp) (by simp only [DU,h0,if_false,wrap_i64 h1 h2])
theorem A0T (hx:S.ev x=.dv (.int k a)) (hy:S.ev y=.dv (.int k b)) (h0:b ≠ 0):AP P S (.binOp .rem t x y ty)=some (.val (.dv (.int k (a.tmod b)))) :=
 KT hx hy (by simp) (by simp only [DU,h0,if_false])
theorem A16 (hx:S.ev x=.dv (.bool bb)) (hy:S.ev y=.dv (.bool cc)) (hP:Kk P t=true):AP P S (.binOp .eql t x y ty)=some (.val (.dv (.bool (bb == cc)))):=by simp only [AP,hx,hy,Dj,hP,if_true,Option.map_some]
theorem A0V (hx:S.ev x=.dv (.bool bb)):AP P S (.unOp .not t x)=some (.val (.dv (.bool !bb))):=by simp only [AP,hx,nY,Option.map_some]
theorem qm (hx:S.look x=(.dv (.Cy cs),ob)) (hf:Bp P t f=some off) {cs':List DV} (hc:cs.drop off=cs'):AP P S (.fieldAddr t x f)=some (.val (.dv (.Cy cs'))):=by
 simp only [AP,hx,NR,hf,Option.map_some,hc]
theorem lK (hx:S.look x=(.pt tg g o,some blk)) (hf:Bp P t f=some off) {o':Nat} (ho:o+off=o'):AP P S (.fieldAddr t x f)=some (.val (.pt tg g o')):=by
 simp only [AP,hx,NR,hf,Option.map_some,ho]
theorem wu {d:DV} (hx:S.look x=(.dv (.Cy cs),ob)) (hs:Ec P t=some sz) (ha:FB P t=some false) (hc:cs[0]?=some d):AP P S (.load t x)=some (.val (.dv d)):=by
 simp only [AP,hx,Dr,hs,ha,hc,Option.map_some]
theorem ql (hx:S.look x=(.dv (.Cy cs),ob)) (hs:Ec P t=some sz) (ha:FB P t=some true) (hl:sz <= cs.length) {cs':List DV} (hc:cs.take sz=cs'):AP P S (.load t x)=some (.val (.dv (.agg cs'))):=by
 simp only [AP,hx,Dr,hs,ha,hl,if_true,hc,Option.map_some]
theorem VK (hx:S.look x=(.pt tg g o,some blk)) (hs:Ec P t=some sz) (ha:FB P t=some false) (hc:blk.cells[o]?=some r):AP P S (.load t x)=some (.val r):=by
 simp only [AP,hx,Dr,hs,ha,hc,Option.map_some]
theorem lH (hx:S.look x=(.pt tg g o,some blk)) (hs:Ec P t=some sz) (ha:FB P t=some true) (hl:o+sz <= blk.cells.length) {r:SV} (hc:LQ ((blk.cells.drop o).take sz)=r):AP P S (.load t x)=some (.val r):=by
 simp only [AP,hx,Dr,hs,ha,hl,if_true,hc,Option.map_some]
theorem bT {α:Type} {F:α -> DV} {L:List α} {q:α} (hx:S.look x=(.dv (.list (L.map F)),ob)) (hy:S.ev y=.dv (.int k n)) (h0:0 <= n) (hq:L[n.toNat]?=some q) (he:Cr P t=some e) (hs:Ec P e=some (F q).cells.length) :
  AP P S (.indexAddr t x y)=some (.val (.dv (.Cy (F q).cells))):=by
 have h1:n.toNat < (L.map F).length:=by rw [List.length_map];exact (List.getElem?_eq_some_iff.1 hq).1
 have h2:(L.map F)[n.toNat]=F q:=by
  rw [List.getElem_map]
  exact congrArg F (List.getElem?_eq_some_iff.1 hq).2
 simp only [AP,hx,hy,NK,he]
 rw [dif_pos ⟨h0,h1⟩,if_pos (by rw [h2];exact hs),h2]
 rfl
theorem lJ {α:Type} {F:α -> DV} {L:List α} {q:α} {i:Nat} (hx:S.look x=(.dv (.list (L.map F)),ob)) (hy:S.ev y=.dv (.int k (i:Int))) (hq:L[i]?=some q) (he:Cr P t=some e) (hs:Ec P e=some (F q).cells.length) :
  AP P S (.indexAddr t x y)=some (.val (.dv (.Cy (F q).cells))):=bT hx hy (Int.natCast_nonneg i) (by rw [Int.toNat_natCast];exact hq) he hs
theorem lI (hx:S.look x=(.sl tg g o len,some blk)) (hy:S.ev y=.dv (.int k n)) (h0:0 <= n) (h1:n.toNat < len) (he:Cr P t=some e) (hs:Ec P e=some blk.C8) {o':Nat} (ho:(o+n.toNat) * blk.C8=o') :
  AP P S (.indexAddr t x y)=some (.val (.pt tg g o')):=by
 simp only [AP,hx,hy,NK,he]
 rw [if_pos ⟨h0,h1,hs⟩,ho]
 rfl
theorem A11 {α:Type} {F:α -> DV} {L:List α} (hx:S.look x=(.dv (.list (L.map F)),ob)) (hs:D5 P t=true):AP P S (.call { callee:=.builtin .len,args:=#[x],argTypes:=#[t] })=some (.val (.dv (.int .i64 (L.length:Int)))):=by
 simp only [AP,GJ,EB,hx,Qy,hs,if_true,Option.map_some,List.length_map]
theorem x9 (hx:S.look x=(.sl tg g o len,some blk)) (hs:D5 P t=true):AP P S (.call { callee:=.builtin .len,args:=#[x],argTypes:=#[t] })=some (.val (.dv (.int .i64 (len:Int)))):=by
 simp only [AP,GJ,EB,hx,Qy,hs,if_true,Option.map_some]
theorem xA (hx:S.look x=(.Bh,ob)) (hs:D5 P t=true):AP P S (.call { callee:=.builtin .len,args:=#[x],argTypes:=#[t] })=some (.val (.dv (.int .i64 0))):=by
 simp only [AP,GJ,EB,hx,Qy,hs,if_true,Option.map_some]
theorem wz {st:ByteArray} (hx:S.look x=(.dv (.str st),ob)) (hs:F5 P t=true):AP P S (.call { callee:=.builtin .len,args:=#[x],argTypes:=#[t] })=some (.val (.dv (.int .i64 (st.size:Int)))):=by
 simp only [AP,GJ,EB,hx,Qy,hs,if_true,Option.map_some]
theorem A0Y {ts:Array TypeId} (hx:S.ev x=.dv (.int k a)) (hy:S.ev y=.dv (.int k' b)):AP P S (.call { callee:=.builtin .min,args:=#[x,y],argTypes:=ts })=some (.val (.dv (.int k (if b < a then b else a)))):=by
 simp only [AP,GJ,EB,hx,hy,KH,Bool.false_eq_true,if_false,Option.map_some]
theorem qj (hx:S.look x=(s,ob)) (h:Mv (s,ob)=some r):AP P S (.nilCheck x)=some (.val r):=by simp only [AP,hx,h,Option.map_some]
theorem gB {i:Nat} (hx:S.ev x=s) (h:JL s i=some r):AP P S (.extract x i)=some (.val r):=by simp only [AP,hx,h,Option.map_some]
theorem xB (hx:S.ev x=.dv (.int k a)) (h:RY P t ty (.dv (.int k a))=some r):AP P S (.convert t ty x)=some (.val r):=by simp only [AP,hx,h,Option.map_some,Option.some_or]
theorem A15 {cc:List SV} (hx:S.ev x=s) (hc:Cb s=some cc):AP P S (.box t x)=some (.mk ⟨cc,0,t,0,false⟩ 0):=by simp only [AP,hx,hc,Option.map_some]
theorem qw {cc:List SV} (hc:Co P t=some cc):AP P S (.alloc t)=some (.mk ⟨cc,0,t,0,false⟩ 0):=by simp only [AP,hc,Option.map_some]
theorem qo {parts:Array (Nat × Operand)} {ps:List (Nat × SV)} (hp:(parts.toList.map fun p=>(p.1,S.ev p.2))=ps) {places:List (Nat × Nat)} {zs cc:List SV} (h1:Ey P t=some places) (h2:Co P t=some zs) (h3:EP (fun i=>places[i]?) zs ps=some cc) (h4:LQ cc=r) :
  AP P S (.build t parts)=some (.val r):=by simp only [AP,hp,Pq,h1,h2,h3,Option.map_some,h4]
theorem Fp {parts:Array (Nat × Operand)} {ps:List (Nat × SV)} (hp:(parts.toList.map fun p=>(p.1,S.ev p.2))=ps) {zs cc:List SV} (he:Cr P t=some e) (hz:Co P e=some zs) (hs:Ec P e=some sz)
  (h1:zs.length=sz) (h2:len * sz <= 16777216) (h3:len <= 16777216) (hf:EP (fun i=>some (i * sz,sz)) (List.replicate len zs).flatten ps=some cc):AP P S (.buildSlice t len parts)=some (.mk ⟨cc,sz,e,0,true⟩ len):=by
 simp only [AP,hp,GK,he,hz,hs,h1,h2,h3,and_self,if_true,hf,Option.map_some]
theorem lG {zs:List SV} (hx:S.ev x=.dv (.int .i64 n)) (hy:S.ev y=.dv (.int .i64 n)) (he:Cr P t=some e) (hz:Co P e=some zs) (hs:Ec P e=some sz) (hb:FL P e=some by')
  (h0:0 <= n) (h1:by' * n <= 281474976710656) (h2:n <= 9223372036854775807) (h3:zs.length=sz):AP P S (.makeSlice t x y)=some (.mk ⟨(List.replicate n.toNat zs).flatten,sz,e,0,true⟩ n.toNat):=by
 simp only [AP,hx,hy,Pf,he,hz,hs,hb]
 rw [if_pos ⟨h0,Int.le_refl _,h1,h2,h3⟩]
theorem VJ {cc:List SV} (hx:S.look x=(.pt tg g o,some blk)) (hs:Ec P t=some sz) (hv:Cb (S.ev y)=some cc) (h1:cc.length=sz) (h2:cc.all DI=true) (h3:o+cc.length <= blk.cells.length) {cells:List SV} (hc:putCells blk.cells o cc=cells) :
  AP P S (.store t x y)=some (.put tg { blk with cells:=cells }):=by
 simp only [AP,hx,MX,hs,hv]
 rw [if_pos ⟨h1,h2,h3⟩,hc]
theorem RP {m':Nat} {news zs:List SV} {tx ex:TypeId} (hs:S.look x=(.Bh,ob)) (hx:Ee sz (S.look y)=some (m',news)) (he:Cr P t=some e) (hex:Cr P tx=some ex) (hz:Co P e=some zs) (hsz:Ec P e=some sz) (hb:FL P e=some by')
  (h1:m' <= 9223372036854775807) (h2:m' * by' <= 140737488355328) (h3:zs.length=sz):AP P S (.call { callee:=.builtin .append,args:=#[x,y],argTypes:=#[t,tx] })=some (.app none ⟨news,sz,e,0,true⟩ m'):=by
 simp only [AP,GJ,EB,JO,he,hex,hsz,hb,hz,hx,hs]
 rw [if_pos ⟨h1,h2,h3⟩]
theorem RO {m':Nat} {news zs:List SV} {tx ex:TypeId} (hs:S.look x=(.sl tg g 0 len,some blk)) (hx:Ee sz (S.look y)=some (m',news)) (he:Cr P t=some e) (hex:Cr P tx=some ex) (hz:Co P e=some zs) (hsz:Ec P e=some sz) (hb:FL P e=some by')
  (hr:blk.row=true) (hes:blk.C8=sz) (hel:blk.elem=e) (hln:blk.cells.length=len * sz) (h1:len+m' <= 9223372036854775807) (h2:(len+m') * by' <= 140737488355328) (h3:zs.length=sz) {cells:List SV} (hc:blk.cells ++ news=cells) :
  AP P S (.call { callee:=.builtin .append,args:=#[x,y],argTypes:=#[t,tx] })=some (.app (some tg) { blk with cells:=cells,st:=0 } (len+m')):=by
 simp only [AP,GJ,EB,JO,he,hex,hsz,hb,hz,hx,hs]
 rw [if_pos ⟨hr,hes,hel,hln,h1,h2,h3⟩,hc]
theorem Zu {α:Type} {F:α -> DV} {L:List α} {M:Nat -> Nat × Option Au} (hF:∀ q,(F q).cells=[F q]) (hok:∀ q,DI (.dv (F q))=true):Ee 1 (.dv (.list (L.map F)),ob)=some (L.length,L.map fun q=>.dv (F q)):=by
 have h1:(L.map F).all (fun d=>d.cells.length == 1 && d.cells.all fun c=>DI (.dv c))=true:=by
  rw [List.all_eq_true]
  intro d hd
  obtain ⟨q,_,rfl⟩:=List.mem_map.1 hd
  simp [hF,hok]
 have h2:flat (L.map F)=L.map F:=by
  unfold flat
  induction L with
  | nil=>rfl
  | cons q L ih=>simp only [List.map_cons,List.flatMap_cons,hF,List.cons_append,List.nil_append];rw [ih];rw [List.map_cons,List.all_cons,Bool.and_eq_true] at h1;exact h1.2
 simp only [Ee,h1,if_true,List.length_map,h2,List.map_map]
 rfl
theorem Hg {L:List Int}:Ee 1 (.dv (.list (L.map (DV.int k))),ob)=some (L.length,L.map fun q=>.dv (.int k q)):=Zu (M:=fun _=>(0,none)) (fun _=>rfl) (fun _=>rfl)
theorem putCells_set {α β:Type} (F:α -> β) (L:List α) (i:Nat) (v:α) (hi:i < L.length):putCells (L.map F) i [F v]=(L.set i v).map F:=by
 unfold putCells
 rw [List.set_eq_take_append_cons_drop,if_pos hi]
 simp [List.map_take,List.map_drop]
end
end Go.Ab
set_option linter.unusedVariables false
namespace Go.Ab
open Go.RowKit
section
variable {cx:Cx} {P:Program} {N:Nat} {ops:Array Oper} {rest:List Oper} {K:St -> Prop} {KD:List It -> St -> Prop} {its:List It} {d f:Nat} {args:Array Operand} {ts:Array TypeId} {ty:TypeId} {p:String} {af:Array Edge} {S S':St} {ds:List DV} {res:Px} {R:List Nat}
 {ss:List SV}
variable {gd:Option (Nat × Bool)}
theorem rV (hP:cx.P=P) (hn:cx.n=N) (hd:d < N) (hgd:G8 ops S gd) (hc:AR P f ds res) (hs:args.toList.map S.ev=ss) (ha:Ca (Fu S.M) ss ds) (hS:(CG d S res).app S=S') (k:Chain cx ops rest S' K) :
  Chain cx ops (⟨some d,.call { callee:=.value (.func f),args:=args,argTypes:=ts },ty,p,af,gd⟩ :: rest) S K :=
 MC hP hn hd hgd (pre:=[]) (caps:=[]) rfl (.inl ⟨by rw [hs];exact ha,by simpa using hc⟩) hS k
theorem rW (hP:cx.P=P) (hn:cx.n=N) (hd:d < N) (hgd:G8 ops S gd) (hc:FN P f ds res) (hs:args.toList.map S.ev=ss) (ha:Ca (Df S.M) ss ds) (hS:(CG d S res).app S=S') (k:Chain cx ops rest S' K) :
  Chain cx ops (⟨some d,.call { callee:=.value (.func f),args:=args,argTypes:=ts },ty,p,af,gd⟩ :: rest) S K :=
 MC hP hn hd hgd (pre:=[]) (caps:=[]) rfl (.inr ⟨by rw [hs];exact ha,by simpa using hc⟩) hS k
theorem lu {pre caps:List DV} {v:Nat} (hP:cx.P=P) (hn:cx.n=N) (hd:d < N) (hgd:G8 ops S gd) (hf:S.F v=.dv (.fn f pre caps)) (hc:AR P f (pre ++ ds ++ caps) res) (hs:args.toList.map S.ev=ss) (ha:Ca (Fu S.M) ss ds) (hS:(CG d S res).app S=S') (k:Chain cx ops rest S' K) :
  Chain cx ops (⟨some d,.call { callee:=.value (.tmp v),args:=args,argTypes:=ts },ty,p,af,gd⟩ :: rest) S K :=
 MC hP hn hd hgd hf (.inl ⟨by rw [hs];exact ha,hc⟩) hS k
theorem rF (hP:cx.P=P) (hn:cx.n=N) (hd:d < N) (hgd:G8 ops S gd) (hc:AR P f ds res) (hs:args.toList.map S.ev=ss) (ha:Ca (Fu (Oe R S.M)) ss ds) (hS:(CG d S res).app S=S') (k:Ba cx ops rest (⟨R ++ IZ d res,CG d S res⟩ :: its) S' KD) :
  Ba cx ops (⟨some d,.call { callee:=.value (.func f),args:=args,argTypes:=ts },ty,p,af,gd⟩ :: rest) its S KD :=
 lU hP hn hd hgd (pre:=[]) (caps:=[]) rfl (.inl ⟨by rw [hs];exact ha,by simpa using hc⟩) hS k
theorem rG (hP:cx.P=P) (hn:cx.n=N) (hd:d < N) (hgd:G8 ops S gd) (hc:FN P f ds res) (hs:args.toList.map S.ev=ss) (ha:Ca (Df (Oe R S.M)) ss ds) (hS:(CG d S res).app S=S') (k:Ba cx ops rest (⟨R ++ IZ d res,CG d S res⟩ :: its) S' KD) :
  Ba cx ops (⟨some d,.call { callee:=.value (.func f),args:=args,argTypes:=ts },ty,p,af,gd⟩ :: rest) its S KD :=
 lU hP hn hd hgd (pre:=[]) (caps:=[]) rfl (.inr ⟨by rw [hs];exact ha,by simpa using hc⟩) hS k
end
section
variable {l:List (Nat × SV)} {m:List (Nat × Nat × Option Au)} {d g:Nat}
theorem Mq {x:DV}:(CG d ⟨lk l,AA m⟩ (.one (.dv x))).app ⟨lk l,AA m⟩=⟨lk ((d,.dv x) :: l),AA m⟩:=by
 simp [CG,Eff.app,E9,Cw,Oh,Gg,D6,EY]
theorem JY {C8 n:Nat} {elem:TypeId} {cs:List DV} (hg:(AA m d).1=g):(CG d ⟨lk l,AA m⟩ (.one (.row C8 elem n cs))).app ⟨lk l,AA m⟩=⟨lk ((d,.sl d (g+1) 0 n) :: l),AA ((d,g+1,some ⟨cs.map .dv,C8,elem,0,true⟩) :: m)⟩:=by
 subst hg
 simp [CG,Eff.app,E9,Cw,Oh,Gg,D6,EY,EM]
theorem aA {x y:DV} {xs:List DV}:(CG d ⟨lk l,AA m⟩ (.many (.dv x :: .dv y :: xs.map .dv))).app ⟨lk l,AA m⟩=⟨lk ((d,.Em (.dv x :: .dv y :: xs.map .dv)) :: l),AA m⟩:=by
 have h1:∀ (xs:List DV) (j:Nat) (M:Nat -> Nat × Option Au),Cw d j (xs.map .dv) M=(xs.map .dv,M):=by
  intro xs
  induction xs with
  | nil=>intro j M;rfl
  | cons x xs ih=>intro j M;simp [Cw,ih]
 have h2:∀ (xs:List DV) (j:Nat) (M:Nat -> Nat × Option Au),Gg d j (xs.map .dv) M=[]:=by
  intro xs
  induction xs with
  | nil=>intro j M;rfl
  | cons x xs ih=>intro j M;simp [Gg,ih]
 simp [CG,Eff.app,E9,Cw,Oh,Gg,D6,EY,h1,h2]
theorem Mi {x y:DV}:(CG d ⟨lk l,AA m⟩ (.many [.dv x,.dv y])).app ⟨lk l,AA m⟩=⟨lk ((d,.Em [.dv x,.dv y]) :: l),AA m⟩:=aA (xs:=[])
theorem JD {x y z:DV}:(CG d ⟨lk l,AA m⟩ (.many [.dv x,.dv y,.dv z])).app ⟨lk l,AA m⟩=⟨lk ((d,.Em [.dv x,.dv y,.dv z]) :: l),AA m⟩:=aA (xs:=[z])
theorem Fy {C8 n:Nat} {elem:TypeId} {cs:List DV} {x:DV} (hg:(AA m d).1=g):(CG d ⟨lk l,AA m⟩ (.many [.row C8 elem n cs,.dv x])).app ⟨lk l,AA m⟩=⟨lk ((d,.Em [.sl d (g+1) 0 n,.dv x]) :: l),AA ((d,g+1,some ⟨cs.map .dv,C8,elem,0,true⟩) :: m)⟩:=by
 subst hg
 simp [CG,Eff.app,E9,Cw,Oh,Gg,D6,EY,EM]
theorem FP {C8 n:Nat} {elem:TypeId} {cs:List DV} {x y:DV} (hg:(AA m d).1=g):(CG d ⟨lk l,AA m⟩ (.many [.row C8 elem n cs,.dv x,.dv y])).app ⟨lk l,AA m⟩=⟨lk ((d,.Em [.sl d (g+1) 0 n,.dv x,.dv y]) :: l),AA ((d,g+1,some ⟨cs.map .dv,C8,elem,0,true⟩) :: m)⟩:=by
 subst hg
 simp [CG,Eff.app,E9,Cw,Oh,Gg,D6,EY,EM]
end
section
variable {ok:Nat -> Prop} {Cv:DV -> Prop} {M:Nat -> Nat × Option Au}
theorem FI:Ca (Data ok Cv M) [] []:=trivial
theorem CV {s:SV} {d:DV} {ss:List SV} {ds:List DV} (h:Data ok Cv M s d) (k:Ca (Data ok Cv M) ss ds):Ca (Data ok Cv M) (s :: ss) (d :: ds):=⟨h,k⟩
theorem Bo {d:DV}:Data ok (fun _=>True) M (.dv d) d:=.dv d trivial
theorem NW {t g n:Nat} {blk:Au} {l:List DV} (hM:M t=(g,some blk)) (hst:ok blk.st) (hl:l.length=n) (he:∀ d ∈ l,d.cells.length=blk.C8) (hc:blk.cells=(flat l).map .dv) (hd:∀ c ∈ flat l,Cv c):Data ok Cv M (.sl t g 0 n) (.list l):=by
 refine .sl t g 0 n blk l (fun j=>.dv ((flat l).getD j default)) hM hst hl he (fun j c hj=>?_) fun j c hj=>?_
 ·simp [hc,hj]
 ·have:(flat l).getD j default=c:=by simp [hj]
  rw [this]
  exact .dv c (hd c (List.mem_of_getElem? hj))
theorem GU {α:Type} {F:α -> DV} {L:List α} (hF:∀ q,(F q).cells=[F q]):flat (L.map F)=L.map F:=by
 unfold flat
 induction L with
 | nil=>rfl
 | cons q L ih=>simp only [List.map_cons,List.flatMap_cons,hF,List.cons_append,List.nil_append];rw [ih]
theorem Bc {t g n:Nat} {blk:Au} {k:IntKind} {L:List Int} (hM:M t=(g,some blk)) (hst:ok blk.st) (hl:L.length=n) (he:blk.C8=1) (hc:blk.cells=L.map fun q=>.dv (.int k q)) (hd:∀ q,Cv (.int k q)):Data ok Cv M (.sl t g 0 n) (.list (L.map (DV.int k))):=by
 have hf:flat (L.map (DV.int k))=L.map (DV.int k):=GU fun _=>rfl
 refine NW hM hst (by simpa using hl) (fun d hd'=>?_) ?_ fun c hc'=>?_
 ·obtain ⟨q,_,rfl⟩:=List.mem_map.1 hd';rw [he];rfl
 ·rw [hf,hc,List.map_map];rfl
 ·rw [hf] at hc';obtain ⟨q,_,rfl⟩:=List.mem_map.1 hc';exact hd q
end
theorem Eo {Cv:DV -> Prop} {M:Nat -> Nat × Option Au} {s:SV} {d:DV} (h:Data (fun _=>True) Cv M s d):E5 Cv M s (.dv d):=h
theorem Yj {Cv:DV -> Prop} {M:Nat -> Nat × Option Au} {t g n:Nat} {k:IntKind} {elem:TypeId} {L:List Int} (hM:M t=(g,some ⟨L.map fun q=>.dv (.int k q),1,elem,0,true⟩)) (hl:L.length=n):E5 Cv M (.sl t g 0 n) (.row 1 elem n (L.map (DV.int k))):=by
 refine .inr ⟨t,g,rfl,?_,by simp [hl],fun c hc=>?_⟩
 ·rw [hM,List.map_map];rfl
 ·obtain ⟨q,_,rfl⟩:=List.mem_map.1 hc;exact .int _ _
theorem TJ {Cv:DV -> Prop} {M:Nat -> Nat × Option Au} {C8:Nat} {elem:TypeId}:E5 Cv M .Bh (.row C8 elem 0 []):=.inl ⟨rfl,rfl,rfl⟩
theorem bQ {P:Program} {Cv:DV -> Prop} {S:St} {e:Exit} {t:Nat} {s:SV} {r:R1} (he:e=.normal \/ e=.ret) (hs:S.F t=s) (hr:E5 Cv S.M s r) (ha:(∃ d,r=.dv d) \/ ∀ d,r=.dv d -> Scalar d):PU P Cv [.tmp t] (.one r) e S:=by
 refine ⟨he,[s],[r],by simp [DX,hs],⟨hr,trivial⟩,?_,rfl⟩
 rcases ha with ⟨d,rfl⟩ | ha
 ·exact .inl fun r hr=>⟨d,by simpa using hr⟩
 ·refine .inr ⟨fun r' hr' d hd=>?_,?_⟩
  ·simp only [List.mem_singleton] at hr';subst hr';exact ha d hd
  ·cases s<;>cases r<;>simp [EG]
theorem BO {τ:Nat -> Option Nat} {M M':Nat -> Nat × Option Au} {k:IntKind}:∀ {L L':List Int},Aa τ M M' (L.map fun q=>.dv (.int k q)) (L'.map fun q=>.dv (.int k q)) ↔ L=L'
 | [],[]=>by simp [Aa]
 | [],_ :: _=>by simp [Aa]
 | _ :: _,[]=>by simp [Aa]
 | a :: L,b :: L'=>by
  simp only [List.map_cons,Aa,AX,DV.int.injEq,true_and,BO,List.cons.injEq]
theorem OI {k:IntKind} {L:List Int} {v:Int}:(L.map fun q=>SV.dv (.int k q)) ++ [SV.dv (.int k v)]=(L ++ [v]).map fun q=>.dv (.int k q):=by simp
theorem Qz {k:IntKind} {L L':List Int}:(L.map fun q=>SV.dv (.int k q)) ++ (L'.map fun q=>SV.dv (.int k q))=(L ++ L').map fun q=>.dv (.int k q):=by simp
abbrev QX (k:IntKind) (e:TypeId) (L:List Int):Au:=⟨L.map fun q=>.dv (.int k q),1,e,0,true⟩
abbrev rK (k:IntKind) (e:TypeId) (L:List Int):R1:=.row 1 e L.length (L.map (DV.int k))
section
variable {l:List (Nat × SV)} {m:List (Nat × Nat × Option Au)} {d g:Nat} {k:IntKind} {e:TypeId} {L:List Int}
theorem Uk:(⟨(L.map (DV.int k)).map .dv,1,e,0,true⟩:Au)=QX k e L:=by simp
theorem Ml (hg:(AA m d).1=g):(CG d ⟨lk l,AA m⟩ (.one (rK k e L))).app ⟨lk l,AA m⟩=⟨lk ((d,.sl d (g+1) 0 L.length) :: l),AA ((d,g+1,some (QX k e L)) :: m)⟩:=by
 rw [JY hg,Uk]
theorem Mk {x:DV} (hg:(AA m d).1=g):(CG d ⟨lk l,AA m⟩ (.many [rK k e L,.dv x])).app ⟨lk l,AA m⟩=⟨lk ((d,.Em [.sl d (g+1) 0 L.length,.dv x]) :: l),AA ((d,g+1,some (QX k e L)) :: m)⟩:=by
 rw [Fy hg,Uk]
theorem Mj {x y:DV} (hg:(AA m d).1=g):(CG d ⟨lk l,AA m⟩ (.many [rK k e L,.dv x,.dv y])).app ⟨lk l,AA m⟩=⟨lk ((d,.Em [.sl d (g+1) 0 L.length,.dv x,.dv y]) :: l),AA ((d,g+1,some (QX k e L)) :: m)⟩:=by
 rw [FP hg,Uk]
end
theorem Qb {Cv:DV -> Prop} {M:Nat -> Nat × Option Au} {t g n:Nat} {k:IntKind} {e:TypeId} {L:List Int} (hM:M t=(g,some (QX k e L))) (hl:n=L.length):E5 Cv M (.sl t g 0 n) (rK k e L):=by
 subst hl;exact Yj hM rfl
theorem TI {Cv:DV -> Prop} {M:Nat -> Nat × Option Au} {k:IntKind} {e:TypeId}:E5 Cv M .Bh (rK k e []):=TJ
theorem RN {P:Program} {Cv:DV -> Prop} {S:St} {x:Exit} {t:Nat} {s1:SV} {k:IntKind} {e:TypeId} {L:List Int} (he:x=.normal \/ x=.ret) (hs:S.F t=s1) (h1:E5 Cv S.M s1 (rK k e L)):PU P Cv [.tmp t] (.one (rK k e L)) x S :=
 bQ he hs h1 (.inr fun d hd=>by cases hd)
def Al:List SV -> Bool
 | []=>true
 | .dv _ :: l=>Al l
 | _ :: _=>false
theorem Dv:∀ {l:List SV},Al l=true ↔ ∀ c ∈ l,∃ d,c=.dv d
 | []=>by simp [Al]
 | .dv d :: l=>by simp [Al,Dv (l:=l)]
 | .dead :: l | .Bh :: l | .emp _ :: l | .sl .. :: l | .pt .. :: l | .agg _ :: l | .Em _ :: l=>by simp [Al]
theorem BL {α:Type} {F:α -> DV} {L:List α}:Al (L.map fun q=>.dv (F q))=true:=by simp [Dv]
theorem BP {a b:List SV}:Al (a ++ b)=(Al a && Al b):=by
 rw [Bool.eq_iff_iff,Bool.and_eq_true,Dv,Dv,Dv]
 simp only [List.mem_append,or_imp,forall_and]
theorem BS {a:List SV} {n:Nat} (h:Al a=true):Al (a.take n)=true:=Dv.2 fun c hc=>Dv.1 h c (List.mem_of_mem_take hc)
theorem BQ {a:List SV} {n:Nat} {d:DV} (h:Al a=true):Al (a.set n (.dv d))=true:=Dv.2 fun c hc=>by
 rcases List.mem_or_eq_of_mem_set hc with h1 | h1
 ·exact Dv.1 h c h1
 ·exact ⟨d,h1⟩
theorem BR {n:Nat} {d:DV}:Al (List.replicate n (.dv d))=true:=Dv.2 fun c hc=>⟨d,List.eq_of_mem_replicate hc⟩
theorem BN {τ:Nat -> Option Nat} {M M':Nat -> Nat × Option Au}:∀ {cs:List SV},Al cs=true -> Aa τ M M' cs cs
 | [],_=>by simp [Aa]
 | .dv d :: cs,h=>by simp only [Aa,AX,true_and];exact BN (by simpa only [Al] using h)
 | .dead :: l,h | .Bh :: l,h | .emp _ :: l,h | .sl .. :: l,h | .pt .. :: l,h | .agg _ :: l,h | .Em _ :: l,h=>by simp [Al] at h
end Go.Ab
