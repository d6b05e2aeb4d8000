/- The presentation of a diagram: the data, and how one relator more is laid. -/
import Derived.Test.YtekbhbcgoadciaaGreatPart3
import Derived.Test.YtekbhbcgoadciaaGreatPart2
import Derived.Test.YtekbhbcgoadciaaGreatProg
set_option maxRecDepth 100000
set_option maxHeartbeats 6400000
namespace Go.Proofs.YtekbhbcgoadciaaGreat
open Go.RowKit
def jF (zs:List Int) (i j:Nat):Int:=if j=i + 1 then aC zs i else 2
def ig (zs:List Int) (i j:Nat):List (List Int):=if 0 < jF zs i j then [ez [(i:Int),(j:Int)] (jF zs i j).toNat] else []
def gY (zs:List Int) (i:Nat):Nat→List (List Int)
 | 0=> []
 | d + 1=>gY zs i d ++ ig zs i (i + 1 + d)
def lT (zs:List Int) (N:Nat):Nat→List (List Int)
 | 0=> []
 | k + 1=>lT zs N k ++ gY zs k (N - (k + 1))
def bJ (zs:List Int):du:=(((zs.length + 1:Nat):Int),lT zs (zs.length + 1) (zs.length + 1))
theorem zZ (zs:List Int) (i j:Nat):(ig zs i j).length≤1:=by unfold ig;split<;>simp
theorem ns (zs:List Int) (i d:Nat):(gY zs i d).length≤d:=by
 induction d with
 | zero=>simp [gY]
 | succ d ih=>have:=zZ zs i (i + 1 + d);simp [gY];omega
theorem uu (zs:List Int) (N k:Nat):(lT zs N k).length≤N * k:=by
 induction k with
 | zero=>simp [lT]
 | succ k ih=>have:=ns zs k (N - (k + 1));simp [lT,Nat.mul_succ];omega
theorem yY {P:Program} {S E:TypeId} {z:Value} {bytes:Nat} (et:ET P S E z bytes) {ops:Array Oper} {o:Oper} {a:Act} {Q:Exit→Act→World→Prop} {w:World} {K:Act→World→Prop} {X:Prop} (hg:o.guard=none) (s x:Operand) (ho:o.op= .call { callee:= .builtin .append,args:= #[s,x],argTypes:= #[S,S] })
  (base:Nat) (ao:Option Addr) (n c:Nat) (xs:List Value) (hs:a.eval s= .slice ao n c) (hown:Own w base E ao n c xs) (u:Value) (xb xc:Nat)
  (hx:a.eval x= .slice (some ⟨xb,0,none⟩) 1 xc) (hc:w.cell? ⟨xb,0,none⟩=some u) (hu:u.oneCell'=true) (hn:n + 1≤4398046511104) (hbase:base≤w.heap.size)
  (h:∀ao' c' w',Own w' base E ao' (n + 1) c' (xs ++ [u])→w.grownBy w' (bk ao)→(bk ao'=bk ao∨bk ao'=some w.heap.size)→K (a.put o.dst (.slice ao' (n + 1) c')) w'):if Region.wanted o (yielded ops a.tmps)=true then Oper.wp P o a w K Q else X:=by
 obtain ⟨i,hi,hz,hsz,hby⟩:=info_parts et.info
 have hw:Region.wanted o (yielded ops a.tmps)=true:=by simp [Region.wanted,hg]
 rw [if_pos hw]
 obtain ⟨v',w',hr,h2,h3,h4,h5⟩:=run_append_own_at (P:=P) w base S o.type E i z 1 bytes et.und hi hz hsz hby (by rw [et.one];rfl) ae (.slice ao n c) n xs hown.1 ⟨xb,0,none⟩ 1 xc [u] rfl
  (by
   intro j u' hu'
   match j,hu' with
   | 0,hu'=>simp at hu';subst hu';rw [Addr.add_lit];exact hc)
  (by intro v hv;simp at hv;subst hv;exact hu) (by simp [maxLen];omega) (by have:=et.small;have:(n + 1) * bytes≤(n + 1) * 32:=Nat.mul_le_mul_left _ this;omega) hbase
 unfold Oper.wp execOp
 simp only [ho,resolve,invoke,builtin,Sem.run_bind,Sem.run_pure,Result.andThen_ok,List.map_toArray,List.map_cons,List.map_nil,hs,hx,hr]
 obtain ⟨g,cap,rfl,hb,hlt⟩:=h2.form ae
 rw [cr] at h3
 refine h _ _ _ ⟨h2,hn⟩ h3 ?_
 rw [cr,cr] at h5
 exact h5
theorem C0 {T1 E lo:Nat} {wr w2 w3 w4:World} {ao ao' ao2:Option Addr} {m c n' c' c2:Nat} {us:List Value} {ds:List (List Int)} {zs:List Int}
  (hR:mx (y6 T1) wr lo wr.heap.size E ao m c us ds) (hlo:lo≤wr.heap.size) (hb:Below wr.heap.size wr w2) (hu:Own w2 wr.heap.size T1 ao' n' c' (zs.map (Value.int .i64))) (hb3:Below w2.heap.size w2 w3)
  (hown:Own w4 lo E ao2 (m + 1) c2 (us ++ [.slice ao' n' c'])) (hg:w3.grownBy w4 (bk ao)) (hat:bk ao2=bk ao∨bk ao2=some w3.heap.size):
  mx (y6 T1) w4 lo w4.heap.size E ao2 (m + 1) c2 (us ++ [.slice ao' n' c']) (ds ++ [zs]):=by
 have hR3:mx (y6 T1) w3 lo wr.heap.size E ao m c us ds:=hR.below (ik _) (hb.trans (hb3.mono hb.size))
 have s1:=hb.size
 have s2:=hb3.size
 have s3:=hg.size
 have hub:∀g,bk ao'=some g→wr.heap.size≤g∧g < w2.heap.size:=hu.lt
 have hne:∀g,bk ao'=some g→bk ao≠some g:=fun g h1 h2=>by have:=hub g h1;have:=hR.top g h2;omega
 have hu4:y6 T1 w4 (.slice ao' n' c') zs:=(ik T1).loc (w:=w2) ⟨ao',n',c',rfl,hu.mono (Nat.zero_le _)⟩ fun g h=>by
  rw [cr] at h
  have:=hub g h
  rw [hg.block g ae (fun e=>hne g h e.symm)]
  exact hb3.block g this.2
 refine hR3.push (ik _) hown hg hu4 (xI fun g h=>⟨by have:=hub g h;omega,by have:=hub g h;omega⟩) (fun g h=>(hown.lt g h).2) ae ?_ ?_
 ·intro g h
  rcases hat with h1 | h1
  ·exact .inl (h1 ▸ h)
  ·refine .inr fun j u hj e=> ?_
   rw [h1] at h;obtain rfl:=Option.some.inj h
   have:=(hR3.rng j u hj _ e).2
   omega
 ·intro g h
  rw [cr] at h
  have hh:=hub g h
  refine ⟨fun e=> ?_,fun j v hj e=> ?_⟩
  ·rcases hat with h1 | h1
   ·exact hne g h (h1 ▸ e)
   ·rw [h1] at e;have:=Option.some.inj e;omega
  ·have:=(hR3.rng j v hj _ e).2;omega
end Go.Proofs.YtekbhbcgoadciaaGreat
namespace Go.Proofs.YtekbhbcgoadciaaGreat
def yU (zs:List Int) (i j:Nat):Nat:=if j=i + 1 then max 1 (aC zs i).toNat else if i=j + 1 then max 1 (aC zs j).toNat else 2
theorem Ft (zs:List Int) (i j:Nat):0 < yU zs i j:=by unfold yU;split<;>(try split)<;>omega
theorem vj (zs:List Int) (i j:Nat):yU zs i j=yU zs j i:=by
 unfold yU
 by_cases h:j=i + 1
 ·rw [if_pos h,if_neg ae,if_pos h]
 ·by_cases k:i=j + 1
  ·rw [if_neg h,if_pos k,if_pos k]
  ·rw [if_neg h,if_neg k,if_neg k,if_neg h]
theorem A0 {zs:List Int} (hp:∀i,i < zs.length→0 < aC zs i) {i j:Nat} (hij:i < j) (hj:j < zs.length + 1):0 < jF zs i j∧(jF zs i j).toNat=yU zs i j:=by
 unfold jF yU
 by_cases h:j=i + 1
 ·have:=hp i ae
  rw [if_pos h,if_pos h];omega
 ·rw [if_neg h,if_neg h,if_neg ae];exact ⟨by decide,rfl⟩
theorem rJ (i j:Nat):∀m,(ez [(i:Int),(j:Int)] m).map Int.toNat=iV i j m
 | 0=>rfl
 | m + 1=>by
  have:ez [(i:Int),(j:Int)] (m + 1)= [(i:Int),(j:Int)] ++ ez [(i:Int),(j:Int)] m:=by unfold ez;rw [List.replicate_succ,List.flatten_cons]
  rw [this,List.map_append,rJ i j m];rfl
theorem v9 {zs:List Int} {i:Nat} {w:List Int} :∀ {d:Nat},w∈gY zs i d↔∃e,e < d∧w∈ig zs i (i + 1 + e)
 | 0=>by simp [gY]
 | d + 1=>by
  rw [gY,List.mem_append,v9]
  constructor
  ·rintro (⟨e,h,k⟩ | h)
   ·exact ⟨e,ae,k⟩
   ·exact ⟨d,ae,h⟩
  ·rintro ⟨e,h,k⟩
   by_cases hd:e=d
   ·subst hd;exact .inr k
   ·exact .inl ⟨e,ae,k⟩
theorem EI {zs:List Int} {N:Nat} {w:List Int} :∀ {k:Nat},w∈lT zs N k↔∃i,i < k∧w∈gY zs i (N - (i + 1))
 | 0=>by simp [lT]
 | k + 1=>by
  rw [lT,List.mem_append,EI]
  constructor
  ·rintro (⟨e,h,k⟩ | h)
   ·exact ⟨e,ae,k⟩
   ·exact ⟨k,ae,h⟩
  ·rintro ⟨e,h,h2⟩
   by_cases hd:e=k
   ·subst hd;exact .inr h2
   ·exact .inl ⟨e,ae,h2⟩
theorem A5 {zs:List Int} {w:List Int} :w∈(bJ zs).2↔∃i j,i < j∧j < zs.length + 1∧0 < jF zs i j∧w=ez [(i:Int),(j:Int)] (jF zs i j).toNat:=by
 show w∈lT zs (zs.length + 1) (zs.length + 1)↔_
 rw [EI]
 constructor
 ·rintro ⟨i,hi,h⟩
  obtain ⟨e,he,h⟩:=v9.1 h
  unfold ig at h
  split at h
  ·rename_i hp
   exact ⟨i,i + 1 + e,ae,ae,hp,by simpa using h⟩
  ·simp at h
 ·rintro ⟨i,j,hij,hj,hp,rfl⟩
  refine ⟨i,ae,v9.2 ⟨j - (i + 1),ae, ?_⟩⟩
  rw [show i + 1 + (j - (i + 1))=j by omega]
  unfold ig
  rw [if_pos hp];simp
theorem Cz {zs:List Int} (hp:∀i,i < zs.length→0 < aC zs i) {W:List (List Int)} (h:CW (zs.length + 1) (bJ zs).2 W):A9 (yU zs) (zs.length + 1) (lH (qA (zs.length + 1) (bJ zs).2 W) (tG (zs.length + 1) (bJ zs).2 W)):=by
 have hT:=h.leads
 have hI:=h.DP
 have hl:(qA (zs.length + 1) (bJ zs).2 W).length=zs.length + 1:=mG
 have inv:∀g y,g < zs.length + 1→lH (qA (zs.length + 1) (bJ zs).2 W) (tG (zs.length + 1) (bJ zs).2 W) g (lH (qA (zs.length + 1) (bJ zs).2 W) (tG (zs.length + 1) (bJ zs).2 W) g y)=y:=fun g y hg=>Dx hT hI g y (by rw [hl];exact hg)
 have low:∀i j,i < j→j < zs.length + 1→∀y,cS (lH (qA (zs.length + 1) (bJ zs).2 W) (tG (zs.length + 1) (bJ zs).2 W)) y (iV i j (yU zs i j))=y:=fun i j hij hj y=>by
  obtain ⟨h1,h2⟩:=A0 hp hij hj
  have hm:=A5.2 ⟨i,j,hij,hj,h1,rfl⟩
  rw [←h2,←rJ]
  by_cases hy:y < tG (zs.length + 1) (bJ zs).2 W
  ·have:=sN hT (ez [(i:Int),(j:Int)] (jF zs i j).toNat) y (by rw [hl];exact h.r _ hm) hy
   rw [De h.r h.w h.nf hm hy] at this;omega
  ·exact yV _ _ hy
 refine ⟨inv,fun i j y hi hj hij=> ?_⟩
 rcases Nat.lt_or_gt_of_ne hij with hlt | hlt
 ·exact low i j hlt hj y
 ·have h1:=low j i hlt hi (cS (lH (qA (zs.length + 1) (bJ zs).2 W) (tG (zs.length + 1) (bJ zs).2 W)) y (iV i j (yU zs i j)))
  have h2:=n6 inv (iV i j (yU zs i j)) y fun g hg=>by rcases sL hg with rfl | rfl<;>assumption
  rw [sa,vj zs i j] at h2
  rw [vj zs i j] at h1 ⊢
  rw [h2] at h1;exact h1.symm
structure qK (zs:List Int) (tw:List Lv):Prop where
 pos:∀i,i < zs.length→0 < aC zs i
 len:tw.length=zs.length + 1
 tb:zI (yU zs) tw=true
 ub:m6 (yU zs) tw=true
 sb:oz tw=true
structure Fc (n I:Nat) (W:List (List Int)):Prop where
 all:∀w∈W,∃i,i < n∧kD I (2 ^ i)=true∧w= [(i:Int)]
 has:∀i,i < n→kD I (2 ^ i)=true→ [(i:Int)]∈W
theorem vi:∀(w:List Nat),(w.map fun g:Nat=>(g:Int)).map Int.toNat=w
 | []=>rfl
 | g :: w=>by rw [List.map_cons,List.map_cons,vi w];rfl
section
variable {zs:List Int} {tw:List Lv} {I:Nat} {W:List (List Int)}
def fL (zs:List Int) (tw:List Lv) (W:List (List Int)) (x:List Nat):Nat:=nW (lH (qA (zs.length + 1) (bJ zs).2 W) (tG (zs.length + 1) (bJ zs).2 W)) 0 tw x
theorem sX (D:qK zs tw) (h:CW (zs.length + 1) (bJ zs).2 W) (w:List Nat) (x:List Nat) (hw:∀g∈w,g < zs.length + 1) (hx:fq tw x=true):
  fL zs tw W (cS (tf tw) x w)=cS (lH (qA (zs.length + 1) (bJ zs).2 W) (tG (zs.length + 1) (bJ zs).2 W)) (fL zs tw W x) w:=
 xN (Ft zs) (by rw [D.len];exact Cz D.pos h) D.tb D.ub w x (by rw [D.len];exact hw) hx
theorem qW {n:Nat} {w:List Nat} (hw:∀g∈w,g < n):bB n (w.map fun g:Nat=>(g:Int)):=by
 intro z hz
 obtain ⟨g,hg,rfl⟩:=List.mem_map.1 hz
 have:=hw g hg
 omega
theorem iQ (D:qK zs tw) (h:CW (zs.length + 1) (bJ zs).2 W) (w:List Nat) (x:List Nat) (hw:∀g∈w,g < zs.length + 1) (hx:fq tw x=true) (hlt:fL zs tw W x < tG (zs.length + 1) (bJ zs).2 W):
  ((fL zs tw W (cS (tf tw) x w):Nat):Int)=dr (qA (zs.length + 1) (bJ zs).2 W) (fL zs tw W x:Nat) (w.map fun g:Nat=>(g:Int)):=by
 rw [sX D h w x hw hx]
 have:=sN h.leads (w.map fun g:Nat=>(g:Int)) _ (by rw [show (qA (zs.length + 1) (bJ zs).2 W).length=zs.length + 1 from mG];exact qW hw) hlt
 rw [vi] at this;exact this
theorem eb:fL zs tw W (dM tw)=0:=ym _ _ tw
theorem fP:0 < tG (zs.length + 1) (bJ zs).2 W:=kI.1
theorem qK.iU (D:qK zs tw) {w:List Nat} {x:List Nat} (hw:∀g∈w,g < zs.length + 1) (hx:fq tw x=true):fq tw (cS (tf tw) x w)=true:=
 Proofs.YtekbhbcgoadciaaGreat.iU (kq tw D.tb).ok w x (by rw [D.len];exact hw) hx
theorem qK.zero (D:qK zs tw):fq tw (dM tw)=true:=Bj tw (jR tw D.ub)
theorem qK.reach (D:qK zs tw) {x:List Nat} (hx:fq tw x=true):∃w,(∀g∈w,g < zs.length + 1)∧cS (tf tw) (dM tw) w=x:=by
 obtain ⟨w,h1,h2⟩:=Eg tw D.tb D.ub x hx
 exact ⟨w,by rw [←D.len];exact h1,h2⟩
theorem my (D:qK zs tw) (h:CW (zs.length + 1) (bJ zs).2 W) {x:List Nat} (hx:fq tw x=true):fL zs tw W x < tG (zs.length + 1) (bJ zs).2 W:=by
 obtain ⟨w,hw,rfl⟩:=D.reach hx
 have:=iQ D h w _ hw D.zero (by rw [eb];exact fP)
 rw [eb] at this
 obtain ⟨y,y1,y2⟩:=xZ h.leads (w:=w.map fun g:Nat=>(g:Int)) (by rw [show (qA (zs.length + 1) (bJ zs).2 W).length=zs.length + 1 from mG];exact qW hw) fP
 rw [y1] at this;omega
theorem qK.rev (D:qK zs tw) {w:List Nat} {x:List Nat} (hw:∀g∈w,g < zs.length + 1) (hx:fq tw x=true):cS (tf tw) (cS (tf tw) x w) w.reverse=x:=by
 have H:=kq tw D.tb
 have e1:=sR H w x (by rw [D.len];exact hw) hx
 have e2:=sR H w.reverse (cS (tf tw) x w) (fun g hg=>by rw [D.len];exact hw g (by simpa using hg)) (D.iU hw hx)
 have:=n6 (f:=ta tw) (n:=tw.length) (fun g x _=>vY H g x) w x (by rw [D.len];exact hw)
 rw [e1.1,e2.1] at this;exact this
theorem Br (D:qK zs tw) (h:CW (zs.length + 1) (bJ zs).2 W) (M:Fc (zs.length + 1) I W) {x:List Nat} (hx:fq tw x=true):fL zs tw W x=0↔qj I tw x=true:=by
 have H:=kq tw D.tb
 constructor
 ·intro h0
  obtain ⟨φ,p0,p1⟩:=Gs (X:=List Nat→Prop) (f:=zj tw) (x0:=Fx tw I) (ng:=zs.length + 1) (R:=(bJ zs).2) (W:=W)
   (fun g S _=>by funext x;show S (ta tw g (ta tw g x))=S x;rw [vY H])
   (fun w hw=>⟨h.r w hw,fun S=>by
    obtain ⟨i,j,hij,hj,hp,rfl⟩:=A5.1 hw
    rw [sY,rJ,sa]
    funext x
    have:=(EH H).rel j i x (by rw [D.len];exact hj) (by rw [D.len];omega) ae
    rw [vj,←(A0 D.pos hij hj).2] at this
    rw [this]⟩)
   (fun w hw=>⟨h.w w hw,by
    obtain ⟨i,hi,hI,rfl⟩:=M.all w hw
    exact CK D.tb D.sb (by rw [D.len];exact hi) hI⟩) h.nf
  obtain ⟨w,hw,rfl⟩:=D.reach hx
  have e:=iQ D h w _ hw D.zero (by rw [eb];exact fP)
  rw [h0,eb] at e
  have q:=p1 (w.map fun g:Nat=>(g:Int)) 0 (qW hw) fP
  rw [←e,vi] at q
  have q:φ 0=cS (zj tw) (φ 0) w:=q
  rw [p0,sY] at q
  have q:=congrFun q (cS (tf tw) (dM tw) w)
  have e1:=sR H w (dM tw) (by rw [D.len];exact hw) D.zero
  have r:=n6 (f:=ta tw) (n:=tw.length) (fun g x _=>vY H g x) w (dM tw) (by rw [D.len];exact hw)
  rw [e1.1] at r
  rw [r] at q
  exact (q.mpr ⟨D.zero,sz I tw D.sb (jR tw D.ub)⟩).2
 ·intro hs
  refine yJ (n:=zs.length + 1) (fun g hg hI=> ?_) tw (by rw [D.len];exact Nat.le_refl _) D.ub D.sb x hx hs
  have hm:=M.has g hg hI
  have e:=CA h.r h.w h.nf hm
  unfold lH
  rw [if_pos fP]
  have e:aC (bn (qA (zs.length + 1) (bJ zs).2 W) g) 0=0:=e
  rw [e];rfl
theorem BS (D:qK zs tw) (h:CW (zs.length + 1) (bJ zs).2 W) (M:Fc (zs.length + 1) I W):tG (zs.length + 1) (bJ zs).2 W * qg I tw=dQ tw:=by
 have hpos:=jR tw D.ub
 have hok:∀x,fq tw (ji tw x)=true:=fun x=>pD tw x hpos
 have hl:(qA (zs.length + 1) (bJ zs).2 W).length=zs.length + 1:=mG
 obtain ⟨Φ,hΦ⟩:∃Φ:Nat→Nat,Φ=fun x=>fL zs tw W (ji tw x):=⟨_,rfl⟩
 have hlt:∀x,x < dQ tw→Φ x < tG (zs.length + 1) (bJ zs).2 W:=fun x _=>by rw [hΦ];exact my D h (hok x)
 have act:∀(u:List Int) (i j:Nat),bB (zs.length + 1) u→dr (qA (zs.length + 1) (bJ zs).2 W) i u=(j:Int)→(wH Φ (dQ tw) i).length≤(wH Φ (dQ tw) j).length:=fun u i j hu hj=>by
  have hun:∀g∈u.map Int.toNat,g < zs.length + 1:=fun g hg=>by
   obtain ⟨z,hz,rfl⟩:=List.mem_map.1 hg
   have:=hu z hz
   omega
  have hback:(u.map Int.toNat).map (fun g:Nat=>(g:Int))=u:=by
   rw [List.map_map]
   conv=>rhs;rw [←List.map_id u]
   refine List.map_congr_left fun z hz=> ?_
   have:=hu z hz
   show ((z.toNat:Nat):Int)=z
   omega
  refine G7 (σ:=fun x=>m0 tw (cS (tf tw) (ji tw x) (u.map Int.toNat))) (fun x hx e=> ?_) (fun x y hx hy e=> ?_)
  ·have ho:=D.iU hun (hok x)
   refine ⟨rk tw _ ho, ?_⟩
   rw [hΦ] at e ⊢
   dsimp only at e ⊢
   rw [ld tw _ ho]
   have:=iQ D h _ _ hun (hok x) (my D h (hok x))
   rw [hback,e,hj] at this
   omega
  ·have h1:=D.iU hun (hok x)
   have h2:=D.iU hun (hok y)
   have e1:=congrArg (ji tw) e
   rw [ld tw _ h1,ld tw _ h2] at e1
   have e2:=congrArg (fun z=>cS (tf tw) z (u.map Int.toNat).reverse) e1
   rw [D.rev hun (hok x),D.rev hun (hok y)] at e2
   have e3:=congrArg (m0 tw) e2
   rwa [oV tw x hx,oV tw y hy] at e3
 have all:∀j,j < tG (zs.length + 1) (bJ zs).2 W→(wH Φ (dQ tw) j).length=(wH Φ (dQ tw) 0).length:=fun j hj=>by
  obtain ⟨u,u1,u2⟩:=uU h.full j hj
  have u2:dr (qA (zs.length + 1) (bJ zs).2 W) (0:Nat) u=(j:Int):=u2
  have r:=xh h.leads h.DP u 0 j (by rw [hl];exact u1) fP u2
  exact Nat.le_antisymm (act u.reverse j 0 (fun z hz=>u1 z (by simpa using hz)) r) (act u 0 j u1 u2)
 have hs:=Bk (φ:=Φ) (m:=tG (zs.length + 1) (bJ zs).2 W) (dQ tw) hlt
 rw [sW all] at hs
 have e:(wH Φ (dQ tw) 0).length=qg I tw:=by
  rw [←AT I tw hpos]
  unfold wH
  congr 1
  refine List.filter_congr fun x _=> ?_
  rw [hΦ]
  dsimp only
  have:=Br D h M (hok x)
  cases hc:qj I tw (ji tw x) with
  | true=>rw [this.2 hc];rfl
  | false=>
   rw [beq_eq_false_iff_ne]
   intro h0
   rw [this.1 h0] at hc;cases hc
 rw [e] at hs;exact hs
end
end Go.Proofs.YtekbhbcgoadciaaGreat
namespace Go.Proofs.YtekbhbcgoadciaaGreat
open Go.RowKit
abbrev jg (im:List (List Int)):Ch:=⟨false,24,1, .rows 2 (bV im) []⟩
abbrev oW (less:List Int):Ch:=⟨false,2,1, .bR (aL less)⟩
abbrev cT (im:List (List Int)):Ch:=⟨true,24,1, .rows 2 (bV im) []⟩
abbrev bG (less:List Int):Ch:=⟨true,2,1, .bR (aL less)⟩
theorem GJ {z:Int} (h:0≤z):vv (I6 z)=vv (I6 ((z.toNat:Nat):Int)):=by rw [Int.toNat_of_nonneg h]
abbrev a6 (wss:List (List Int)):Ch:=⟨false,24,1, .rows 2 (bV wss) []⟩
abbrev tX (bs:List Bool):Ch:=⟨true,4,1, .bR (fT bs)⟩
abbrev dk (W:List Int):Ch:=⟨false,2,1, .bR (aL W)⟩
section
variable {P:Program} {nt:Nat} {S:St} {t:Nat} {ty:TypeId} {ps:String} {af:Array Edge} {gd:Option (Nat×Bool)} {x y:Operand}
theorem mQ {T E n:Nat} {l c:Operand} {kl kc:IntKind} {L C:Int} (ht:Nat.blt t nt=true) (hT:pN P T E 1=true) (hz:(P.info? E).bind (·.zero)=some (.bool false)) (hl:S.op l=some (vv (.int kl L))) (hc:S.op c=some (vv (.int kc C)))
  (hL:L=(n:Int)) (hC:C=(n:Int)) (hn:n≤2199023255552):cu P nt ⟨some t, .makeSlice T l c,ty,ps,af,gd⟩ S ((S.new t ⟨true,E,1, .bR (fT (List.replicate n false))⟩).put t (o1 (.sl t 0 n))):=by
 rw [BQ]
 exact xT (ts:= #[]) ht hT hz hl hc hL hC hn rfl
theorem mE {T:TypeId} {n:Nm} {i:Nat} {c:Ch} {bs:List Bool} {b:Bool} (hx:S.op x=some (o1 (.ptr n i))) (hy:S.op y=some (vv (.bool b))) (hc:S.ch n=some c) (hown:c.own=true) (hd:c.d= .bR (fT bs)) (hi:i < bs.length) (hT:jd P T 1=true):
  cu P nt ⟨none, .store T x y,ty,ps,af,gd⟩ S (S.set n { c with d:= .bR (fT (bs.set i b)) }):=by
 have:=sQ (P:=P) (nt:=nt) (ty:=ty) (ps:=ps) (af:=af) (gd:=gd) hx hy hc hown hd (by rw [jw];exact hi) hT rfl
 rwa [Cb] at this
end
end Go.Proofs.YtekbhbcgoadciaaGreat
namespace Go.Proofs.YtekbhbcgoadciaaGreat
open Go.RowKit
theorem jT (less:List Int) (n c:Nat) (b:Bool) (hn:less.length=n) (hd:Down less) (hc:c < less.length):
  FC Tryz.prog 178 [(1001,⟨false,2,1, .bR (aL less)⟩)] [.s (.agg [.any, .sl 1001 0 n, .val (.bool b)]),vv (I6 c)] [] (vv (I6 (root less c))) []:=by
 subst hn
 refine bj (nt:=18) Tryz.func178 rfl rfl (by simp) fun w0 ω0=> ?_
 (refine ak (ah (aa rfl (cF rfl rfl rfl rfl) (aa rfl (ai rfl rfl) (ar (an (ak (aB ?_))))))))
 refine bz (fun k:Nat=>St.of [(1,vv (I6 k)),(2,o1 (.ptr 2 0))] [(1001,⟨false,2,1, .bR (aL less)⟩),(2,⟨true,149,3, .flat [.any, .sl 1001 0 less.length, .val (.bool b)]⟩)]) (fun k=>k < less.length∧root less k=root less c) (fun k=>k) c ⟨hc,rfl⟩ (Wk.of ⟨rfl,rfl,ag⟩ ⟨rfl,rfl,ag⟩ trivial) ?_
 rintro k ⟨hk,hr⟩
 (refine ak (ak (ah ?_));apply aa rfl;(exact aI (d:=1) rfl rfl rfl ab);apply aa rfl;exact aZ rfl ab rfl rfl rfl rfl;apply aa rfl;exact aj rfl rfl;apply aa rfl;exact aR rfl rfl rfl rfl rfl ab a9 aJ a8;apply aa rfl;exact bf rfl ab rfl rfl rfl aQ;refine aa rfl (aj rfl rfl) (aa rfl (aG rfl rfl rfl rfl) (ar (an ?_))))
 have hk2:=hd k hk
 refine ax rfl (fun h=> ?_) (fun h=> ?_)
 ·have hne:aC less k≠k:=by simpa using h
  have hz:aC less k=(((aC less k).toNat:Nat):Int):=(Int.toNat_of_nonneg hk2.1).symm
  (refine aE (an (aB (ah ?_)));apply aa rfl;(exact aI (d:=1) rfl rfl rfl ab);apply aa rfl;exact aZ rfl ab rfl rfl rfl rfl;apply aa rfl;exact aj rfl rfl;apply aa rfl;exact aR rfl rfl rfl rfl rfl ab a9 aJ a8;apply aa rfl;exact bf rfl ab rfl rfl rfl aQ;refine aa rfl (ai rfl rfl) (ar (aM ?_)))
  exact aW (aC less k).toNat ⟨ae,(fK hd hk hne).symm.trans hr⟩ ae (Wk.of ⟨congrArg (fun z=>some (vv (I6 z))) hz,rfl,ag⟩ ⟨rfl,rfl,ag⟩ trivial)
 ·have he:aC less k=k:=by simpa using h
  have e:k=root less c:=by rw [←hr,dj he]
  (refine a7 (aA (aA (aT (an (ak (ah (aa rfl (aj rfl rfl) (aa rfl (ai rfl rfl) (ar (an (aS ?_))))))))))))
  exact bu (.inl rfl) rfl (.tmp (congrArg (fun z:Nat=>some (vv (I6 z))) e)) trivial trivial
abbrev zf (m n:Nat) (b:Bool):AV:= .s (.agg [.sl 1000 0 m, .sl 1001 0 n, .val (.bool b)])
theorem iM (im:List (List Int)) (less:List Int) (m n c g:Nat) (b:Bool) (hm:im.length=m) (hn:less.length=n) (hd:Down less) (hc:c < im.length) (hg:g < (bn im c).length) (he:bZ im c g < less.length):
  FC Tryz.prog 155 [(1000,jg im),(1001,oW less)] [zf m n b,vv (I6 c),vv (I6 g)] [] (vv (I6 (image im less c g))) []:=by
 subst hm hn
 refine bj (nt:=21) Tryz.func155 rfl rfl (by simp) fun w0 ω0=> ?_
 (refine ak (ah (aa rfl (cF rfl rfl rfl rfl) (aa rfl (ai rfl rfl) (ar (an (ak (ah ?_)))))));apply aa rfl;(exact aI (d:=0) rfl rfl rfl ab);apply aa rfl;exact aZ rfl ab rfl rfl rfl rfl;apply aa rfl;exact aj rfl rfl;apply aa rfl;exact aR rfl rfl rfl rfl rfl ab a9 aJ a8;apply aa rfl;exact bF rfl ab rfl rfl rfl aQ c8;apply aa rfl;exact aj rfl rfl;apply aa rfl;exact bd rfl rfl rfl rfl rfl ab aQ a9 aJ a8;apply aa rfl;exact a5 rfl ab rfl rfl rfl aQ aQ;refine aa rfl (ai rfl rfl) (ar (an (ak (ak (ah (aa rfl (aj rfl rfl) (aa rfl (aG rfl rfl rfl rfl) (ar (an ?_))))))))))
 refine bK rfl (fun h=> ?_) (fun h=> ?_)
 ·have e:image im less c g= -1:=if_pos h
  (refine ak (ah (aa rfl (ai rfl rfl) (ar (an (aS (aO ?_)))))))
  exact bu (.inl rfl) rfl (.tmp (congrArg (fun z=>some (vv (I6 z))) e.symm)) trivial trivial
 ·have h:¬bZ im c g < 0:=h
  have e:image im less c g=root less (bZ im c g).toNat:=if_neg h
  (refine aE (an (ak (ah (aa rfl (aU rfl rfl rfl rfl rfl rfl ab) ?_))));apply aa rfl;exact aj rfl rfl;apply aa rfl;(exact aw (jT less _ (bZ im c g).toNat b rfl hd ae) ab rfl rfl ⟨⟨.inr ⟨rfl,rfl⟩, .inl rfl, .inl rfl,ag⟩,GJ ae,ag⟩ ⟨⟨_,rfl, .inl rfl⟩,ag⟩ rfl rfl);refine aa rfl (ai rfl rfl) (ar (an (aS ?_))))
  exact bu (.inl rfl) rfl (.tmp (congrArg (fun z=>some (vv (I6 z))) e.symm)) trivial trivial
end Go.Proofs.YtekbhbcgoadciaaGreat
namespace Go.Proofs.YtekbhbcgoadciaaGreat
open Go.RowKit
theorem tg (im:List (List Int)) (less:List Int) (m n g:Nat) (b:Bool) (hm:im.length=m) (hn:less.length=n) (h:less.length=2000):
  FC Tryz.prog 175 [(1000,cT im),(1001,bG less)] [zf m n b,vv (I6 g)] [(1000,cT im),(1001,bG less)] (.tup [.agg [.sl 1000 0 m, .sl 1001 0 n, .val (.bool true)], .one (.val (I6 0))]) []:=by
 subst hm hn
 refine bj (nt:=39) Tryz.func175 rfl rfl (by simp) fun w0 ω0=> ?_
 (refine ak (ah (aa rfl (cF rfl rfl rfl rfl) ?_));apply aa rfl;exact cL [.slice none 0 0, .slice none 0 0, .bool false] rfl ab;refine aa rfl (ai rfl rfl) (ar (an (ak (ah ?_))));apply aa rfl;(exact aI (d:=1) rfl rfl rfl ab);apply aa rfl;exact aZ rfl ab rfl rfl rfl rfl;apply aa rfl;exact bw rfl rfl rfl ab;refine aa rfl (ai rfl rfl) (ar (an (ak (ak (ah (aa rfl (aj rfl rfl) (aa rfl (aG rfl rfl rfl rfl) (ar (an ?_))))))))))
 refine ax rfl (fun e=> ?_) (fun e=> ?_)
 ·(refine ak (ah ?_);apply aa rfl;(exact aI (d:=2) rfl rfl rfl ab);apply aa rfl;exact fz rfl rfl rfl rfl rfl rfl ab rfl;refine ar (an (ak (ah (aa rfl (aU rfl rfl rfl rfl rfl rfl ab) ?_))));apply aa rfl;exact br rfl rfl rfl rfl rfl rfl rfl rfl ab rfl;refine aa rfl (ai rfl rfl) (ar (an (aS (aO ?_)))))
  exact bN (.inl rfl) rfl (.cell rfl rfl rfl rfl rfl (by kernel_rfl)) (.tmp rfl) ⟨rfl,rfl,ag⟩ trivial
 ·rw [h] at e;cases e
theorem n9 (im:List (List Int)) (less:List Int) (m n g:Nat) (b:Bool) (hm:im.length=m) (hn:less.length=n) (h:less.length < 2000) (hg:g≤1000) (hi:im.length≤10000):
  FC Tryz.prog 175 [(1000,cT im),(1001,bG less)] [zf m n b,vv (I6 g)] [(1000,cT (im ++ [List.replicate g (-1)])),(1001,bG (less ++ [(n:Int)]))] (.tup [.agg [.sl 1000 0 (m + 1), .sl 1001 0 (n + 1), .val (.bool b)], .one (.val (I6 n))]) []:=by
 subst hm hn
 refine bj (nt:=39) Tryz.func175 rfl rfl (by simp) fun w0 ω0=> ?_
 (refine ak (ah (aa rfl (cF rfl rfl rfl rfl) ?_));apply aa rfl;exact cL [.slice none 0 0, .slice none 0 0, .bool false] rfl ab;refine aa rfl (ai rfl rfl) (ar (an (ak (ah ?_))));apply aa rfl;(exact aI (d:=1) rfl rfl rfl ab);apply aa rfl;exact aZ rfl ab rfl rfl rfl rfl;apply aa rfl;exact bw rfl rfl rfl ab;refine aa rfl (ai rfl rfl) (ar (an (ak (ak (ah (aa rfl (aj rfl rfl) (aa rfl (aG rfl rfl rfl rfl) (ar (an ?_))))))))))
 refine ax rfl (fun e=> ?_) (fun e=> ?_)
 ·exfalso;simp at e;omega
 ·(refine aE (an (ak (ah ?_)));apply aa rfl;(exact ey (E:=2) (k:=1) rfl ab);refine aa rfl (ai rfl rfl) (ar (an (ak (ak (ah (aa rfl (ai rfl rfl) (ar (an (aB ?_))))))))))
  refine bz (fun k:Nat=>St.of [(1,vv (I6 g)),(2,o1 (.ptr 2 0)),(4,o1 (.ptr 4 0)),(6,vv (I6 less.length)),(7,o1 (.sl 16 0 k)),(8,vv (I6 k))] [(1000,cT im),(1001,bG less),(2,⟨true,149,3, .flat [.sl 1000 0 im.length, .sl 1001 0 less.length, .val (.bool b)]⟩),(4,⟨true,149,3, .flat [.val (.slice none 0 0), .val (.slice none 0 0), .val (.bool false)]⟩),(16,⟨true,2,1, .bR (aL (List.replicate k (-1)))⟩)]) (fun k=>k≤g) (fun k=>g - k) 0 (Nat.zero_le _) (Wk.of ⟨rfl,rfl,rfl,rfl,rfl,rfl,ag⟩ ⟨rfl,rfl,rfl,rfl,rfl,ag⟩ trivial) ?_
  intro k hk
  (refine ak (ak (ah (aa rfl (aj rfl rfl) (aa rfl (aj rfl rfl) (aa rfl (aG rfl rfl rfl rfl) (ar (an ?_))))))))
  refine bK rfl (fun h=> ?_) (fun h=> ?_)
  ·(refine aE (an (ak (aB (ah (aa rfl (aj rfl rfl) ?_)))));apply aa rfl;(exact bW (E:=2) rfl ab rfl);apply aa rfl;(exact bE rfl ab rfl rfl rfl (by first | rfl | assumption | (simp;done)) rfl rfl ae);refine aa rfl (ai rfl rfl) (ar (aM (an (ah (aa rfl (aj rfl rfl) ?_)))));apply aa rfl;exact aP rfl rfl rfl bA;refine aa rfl (ai rfl rfl) (ar ?_))
   exact aW (k + 1) ae ae (Wk.of ⟨rfl,rfl,rfl,rfl,rfl,rfl,ag⟩ ⟨rfl,rfl,rfl,rfl,by rw [List.replicate_succ'];rfl,ag⟩ trivial)
  ·obtain rfl:k=g:=by omega
   (refine a7 (aA (aA (aT (an (ak (ah ?_))))));apply aa rfl;(exact aI (d:=0) rfl rfl rfl ab);apply aa rfl;exact aZ rfl ab rfl rfl rfl rfl;apply aa rfl;exact aj rfl rfl;apply aa rfl;(exact lW (E:=24) rfl ab rfl rfl rfl);apply aa rfl;(exact kE rfl ab rfl rfl (by first | rfl | assumption | (simp;done)) rfl rfl rfl (by first | rfl | assumption | (simp;done)) rfl ae);apply aa rfl;(exact aI (d:=0) rfl rfl rfl ab);apply aa rfl;exact fz rfl rfl rfl rfl rfl rfl ab rfl;refine ar (an (ak (ah ?_)));apply aa rfl;(exact aI (d:=1) rfl rfl rfl ab);apply aa rfl;exact aZ rfl ab rfl rfl rfl rfl;apply aa rfl;exact aj rfl rfl;apply aa rfl;(exact bW (E:=2) rfl ab rfl);apply aa rfl;(exact bE rfl ab rfl rfl rfl (by first | rfl | assumption | (simp;done)) rfl rfl ae);apply aa rfl;(exact aI (d:=1) rfl rfl rfl ab);apply aa rfl;exact fz rfl rfl rfl rfl rfl rfl ab rfl;refine ar (an (ak (ah (aa rfl (aU rfl rfl rfl rfl rfl rfl ab) ?_))));refine aa rfl (aj rfl rfl) (aa rfl (br rfl rfl rfl rfl rfl rfl rfl rfl ab rfl) ?_);refine aa rfl (ai rfl rfl) (ar (an (aS ?_))))
   exact bN (.inl rfl) rfl (.cell rfl rfl rfl rfl rfl (by kernel_rfl)) (.tmp rfl) ⟨rfl,rfl,ag⟩ trivial
end Go.Proofs.YtekbhbcgoadciaaGreat
namespace Go.Proofs.YtekbhbcgoadciaaGreat
open Go.RowKit
theorem yN {α:Type} (l:List α) (x:α):l.length + 1=(l ++ [x]).length:=by simp
theorem j4 (lo hi:Nat) (im:List (List Int)) (h:List (Int×Int)):∀g,bH lo hi (im,h) g=((bH lo hi (im, []) g).1,h ++ (bH lo hi (im, []) g).2)
 | 0=>by simp [bH]
 | g + 1=>by
  simp only [bH]
  rw [j4 lo hi im h g]
  unfold stepG
  dsimp only
  split
  ·rfl
  ·split
   ·simp
   ·rfl
theorem mq (ng n:Nat) (im:List (List Int)) (less:List Int) (c d:Nat) (b:Bool) (hnn:less.length=n) (hw:WF ng im less) (hc:c < less.length) (hd:d < less.length) (hn:less.length≤2000) (hng:ng≤1000):
  FC Tryz.prog 186 [(1000,cT im),(1001,bG less)] [zf n n b,vv (I6 c),vv (I6 d)] [(1000,cT (ident ng im less [((c:Int),(d:Int))]).1),(1001,bG (ident ng im less [((c:Int),(d:Int))]).2)] (.s (.agg [.sl 1000 0 n, .sl 1001 0 n, .val (.bool b)])) []:=by
 refine bj (nt:=97) Tryz.func186 rfl rfl (by simp) fun w0 ω0=> ?_
 generalize hR:ident ng im less [((c:Int),(d:Int))]=R
 (refine ak (ah (aa rfl (cF rfl rfl rfl rfl) ?_));apply aa rfl;exact cL [.slice none 0 0, .slice none 0 0, .bool false] rfl ab;refine ar (an (ak (ah (aa rfl (aj rfl rfl) ?_))));apply aa rfl;(exact bW (E:=2) rfl ab rfl);apply aa rfl;exact aj rfl rfl;apply aa rfl;(exact bW (E:=2) rfl ab rfl);refine aa rfl (ai rfl rfl) (aa rfl (ai rfl rfl) (ar (an (ak (ak (ah (aa rfl (ai rfl rfl) (ar (an (aB ?_)))))))))))
 have hB:fuel ng less [((c:Int),(d:Int))]≤2100000:=by
  unfold fuel
  have h1:alive less≤less.length:=by unfold alive;exact Nat.le_trans (List.length_filter_le _ _) (by simp)
  have h2:alive less * (ng + 1)≤2000 * 1001:=Nat.mul_le_mul ae ae
  simp;omega
 have hq0:nj less.length [((c:Int),(d:Int))]:=fun p hp=>by simp at hp;subst hp;exact ⟨ae,ae⟩
 have hnm:im.length=n:=hw.len.trans hnn
 refine bz (fun j:List (List Int)×List Int×List (Int×Int)×Nat=>St.of [(3,o1 (.ptr 3 0)),(6,o1 (.ptr 6 0)),(7,o1 (.sl 16 0 j.2.2.1.length)),(8,o1 (.sl 18 0 j.2.2.1.length)),(9,vv (I6 j.2.2.2))]
   [(1000,cT j.1),(1001,bG j.2.1),(3,⟨true,149,3, .flat [.sl 1000 0 n, .sl 1001 0 n, .val (.bool b)]⟩),(6,⟨true,149,3, .flat [.val (.slice none 0 0), .val (.slice none 0 0), .val (.bool false)]⟩),(16,⟨true,2,1, .bR (aL (j.2.2.1.map (·.1)))⟩),(18,⟨true,2,1, .bR (aL (j.2.2.1.map (·.2)))⟩)])
  (fun j=>WF ng j.1 j.2.1∧j.2.1.length=n∧j.2.2.2≤j.2.2.1.length∧nj n (j.2.2.1.drop j.2.2.2)∧j.2.2.2 + fuel ng j.2.1 (j.2.2.1.drop j.2.2.2)≤2100000∧ident ng j.1 j.2.1 (j.2.2.1.drop j.2.2.2)=R)
  (fun j=>fuel ng j.2.1 (j.2.2.1.drop j.2.2.2)) (im,less, [((c:Int),(d:Int))],0) ⟨hw,hnn,Nat.zero_le _,hnn ▸ hq0,by simpa using hB,hR⟩ (Wk.of ⟨rfl,rfl,rfl,rfl,rfl,ag⟩ ⟨rfl,rfl,rfl,rfl,rfl,rfl,ag⟩ trivial) ?_
 rintro ⟨im1,less1,h,i⟩ ⟨hw1,hn1,hi,hq,hb,hr⟩
 dsimp only at hw1 hn1 hi hq hb hr ⊢
 have hm1:=hw1.len
 (refine ak (ak (ah (aa rfl (aj rfl rfl) (aa rfl (aj rfl rfl) (aa rfl (bw rfl rfl rfl ab) ?_)))));refine aa rfl (aG rfl rfl rfl rfl) (ar (an ?_)))
 refine bK rfl (fun hlt=> ?_) (fun hlt=> ?_)
 ·have hlt':i < h.length:=by omega
  obtain ⟨p,hp⟩:∃p,h[i]? =some p:=⟨h[i],List.getElem?_eq_getElem hlt'⟩
  obtain ⟨q,hqq⟩:∃q,h.drop (i + 1)=q:=⟨_,rfl⟩
  have hpq:h.drop i=p :: q:=by rw [List.drop_eq_getElem_cons hlt',hqq];congr 1;rw [List.getElem?_eq_getElem hlt'] at hp;exact Option.some.inj hp
  rw [hpq] at hq hb hr
  have hpp:=hq p (by simp)
  have hqn:nj n q:=fun x hx=>hq x (by simp [hx])
  have g1:(aL (h.map (·.1)))[i]? =some (I6 p.1):=by simp [aL,hp]
  have g2:(aL (h.map (·.2)))[i]? =some (I6 p.2):=by simp [aL,hp]
  (refine aE ?_;refine an ?_;refine ak ?_;refine aB ?_;refine ak ?_)
  apply eE 12 [] [[], [], [], [1,2], [1,2,3], [0,1,2,3,4], [], [], [], [7,8], [7,8,9], [0,1,2,3,4,5,6,7,8,9,10], [0,1,2,3,4,5,6,7,8,9,10,11], [0,1,2,3,4,5,6,7,8,9,10,11,12]] [25,26,27,28,29,30,31,32,33,34,35,36] [] (by kernel_rfl) (by kernel_rfl)
  ·(apply aK rfl;(intro S1 hS;exact aU rfl (hS.op rfl) (hS.ch _ _ rfl) rfl rfl rfl ab);apply aK rfl;(intro S1 hS;exact aj rfl (hS.op rfl));apply aK rfl;(intro S1 hS;exact aj rfl (hS.op rfl));apply aK rfl;(intro S1 hS;exact aR rfl (hS.op rfl) (hS.op rfl) (hS.ch _ _ rfl) rfl ab a9 aJ a8);apply aK rfl;(intro S1 hS;exact bf rfl ab (hS.op rfl) (hS.ch _ _ rfl) rfl aQ);(apply aK rfl;(focus (intro S1 hS;refine au 178 ?_;first | exact aw (jT less1 n p.1.toNat b hn1 hw1.down ae) ab rfl (eu hS rfl) ⟨⟨.inr ⟨rfl,rfl⟩, .inl rfl, .inl rfl,ag⟩,GJ ae,ag⟩ (dq hS ⟨⟨_,rfl, .inr rfl⟩,ag⟩) rfl rfl | exact aw (jT less1 n p.2.toNat b hn1 hw1.down ae) ab rfl (eu hS rfl) ⟨⟨.inr ⟨rfl,rfl⟩, .inl rfl, .inl rfl,ag⟩,GJ ae,ag⟩ (dq hS ⟨⟨_,rfl, .inr rfl⟩,ag⟩) rfl rfl)));apply aK rfl;(intro S1 hS;exact aU rfl (hS.op rfl) (hS.ch _ _ rfl) rfl rfl rfl ab);apply aK rfl;(intro S1 hS;exact aj rfl (hS.op rfl));apply aK rfl;(intro S1 hS;exact aj rfl (hS.op rfl));apply aK rfl;(intro S1 hS;exact aR rfl (hS.op rfl) (hS.op rfl) (hS.ch _ _ rfl) rfl ab a9 aJ a8);apply aK rfl;(intro S1 hS;exact bf rfl ab (hS.op rfl) (hS.ch _ _ rfl) rfl aQ);(apply aK rfl;(focus (intro S1 hS;refine au 178 ?_;first | exact aw (jT less1 n p.1.toNat b hn1 hw1.down ae) ab rfl (eu hS rfl) ⟨⟨.inr ⟨rfl,rfl⟩, .inl rfl, .inl rfl,ag⟩,GJ ae,ag⟩ (dq hS ⟨⟨_,rfl, .inr rfl⟩,ag⟩) rfl rfl | exact aw (jT less1 n p.2.toNat b hn1 hw1.down ae) ab rfl (eu hS rfl) ⟨⟨.inr ⟨rfl,rfl⟩, .inl rfl, .inl rfl,ag⟩,GJ ae,ag⟩ (dq hS ⟨⟨_,rfl, .inr rfl⟩,ag⟩) rfl rfl)));exact ft.nil)
  ·rfl
  ((apply aF 12 rfl ab rfl rfl;exact ai rfl rfl);(apply aF 13 rfl ab rfl rfl;exact ai rfl rfl);(refine bh ab ?_;skip))
  have hr1:=de hw1.down (c:=p.1.toNat) ae
  have hr2:=de hw1.down (c:=p.2.toNat) ae
  (refine an (ak (ak (ah (aa rfl (aj rfl rfl) (aa rfl (aj rfl rfl) (aa rfl (aG rfl rfl rfl rfl) (ar (an ?_)))))))))
  refine ax rfl (fun he=> ?_) (fun he=> ?_)
  ·have he':root less1 p.1.toNat=root less1 p.2.toNat:=by have:=he;simp at this;omega
   have hfu:fuel ng less1 (p :: q)=fuel ng less1 q + 1:=by unfold fuel;simp;omega
   (refine a7 (aA (aT (an (ah (aa rfl (aj rfl rfl) ?_)))));apply aa rfl;exact aP rfl rfl rfl bA;refine aa rfl (ai rfl rfl) (ar ?_))
   exact aW (im1,less1,h,i + 1) ⟨hw1,hn1,hlt',by rw [hqq];exact hqn,by show i + 1 + fuel ng less1 (h.drop (i + 1))≤2100000;rw [hqq];omega,by rw [hqq,←tn hw1 (hn1 ▸ hq) he'];exact hr⟩ (by show fuel ng less1 (h.drop (i + 1)) < fuel ng less1 (h.drop i);rw [hqq,hpq];omega) (Wk.of ⟨rfl,rfl,rfl,rfl,rfl,ag⟩ ⟨rfl,rfl,rfl,rfl,rfl,rfl,ag⟩ trivial)
  ·have he':root less1 p.1.toNat≠root less1 p.2.toNat:=by have:=he;simp at this;omega
   obtain ⟨hm1,hm2,hm3,hm4⟩:=ke hw1 (hn1 ▸ hq) he'
   generalize hcc:root less1 p.1.toNat=cc at *
   generalize hdd:root less1 p.2.toNat=dd at *
   obtain ⟨lo,hlo⟩:∃lo,min cc dd=lo:=⟨_,rfl⟩
   obtain ⟨hi,hhi⟩:∃hi,max cc dd=hi:=⟨_,rfl⟩
   have hll:lo < hi∧hi < n:=by omega
   unfold gv at hm1 hm2 hm3 hm4
   rw [hlo,hhi] at hm1 hm2 hm3 hm4
   (refine aE (an (ak (ak (ah (aa rfl (aj rfl rfl) (aa rfl (aj rfl rfl) (aa rfl (aG rfl rfl rfl rfl) (ar (an ?_))))))))))
   refine Cu (St.of [(3,o1 (.ptr 3 0)),(6,o1 (.ptr 6 0)),(7,o1 (.sl 16 0 h.length)),(8,o1 (.sl 18 0 h.length)),(9,vv (I6 i)),(10,vv (I6 lo)),(11,vv (I6 hi))] [(1000,cT im1),(1001,bG less1),(3,⟨true,149,3, .flat [.sl 1000 0 n, .sl 1001 0 n, .val (.bool b)]⟩),(6,⟨true,149,3, .flat [.val (.slice none 0 0), .val (.slice none 0 0), .val (.bool false)]⟩),(16,⟨true,2,1, .bR (aL (h.map (·.1)))⟩),(18,⟨true,2,1, .bR (aL (h.map (·.2)))⟩)]) rfl (fun hg=> ?_) (fun hg=> ?_) ?_
   ·have hg:(cc:Int) > dd:=of_decide_eq_true hg
    obtain ⟨rfl,rfl⟩:lo=dd∧hi=cc:=by omega
    (refine ah (aa rfl (aj rfl rfl) (aa rfl (aj rfl rfl) (aa rfl (ai rfl rfl) (aa rfl (ai rfl rfl) (ar ?_))))))
    exact aV (Wk.of ⟨rfl,rfl,rfl,rfl,rfl,rfl,rfl,ag⟩ ⟨rfl,rfl,rfl,rfl,rfl,rfl,ag⟩ trivial)
   ·have hg:¬(cc:Int) > dd:=of_decide_eq_false hg
    obtain ⟨rfl,rfl⟩:lo=cc∧hi=dd:=by omega
    (refine aE ?_)
    exact aV (Wk.of ⟨rfl,rfl,rfl,rfl,rfl,rfl,rfl,ag⟩ ⟨rfl,rfl,rfl,rfl,rfl,rfl,ag⟩ trivial)
   have hhl:hi < less1.length:=by omega
   (refine an (ak (ah ?_));apply aa rfl;(exact aI (d:=1) rfl rfl rfl ab);apply aa rfl;exact aZ rfl ab rfl rfl rfl rfl;refine aa rfl (aj rfl rfl) (aa rfl (aj rfl rfl) ?_);apply aa rfl;exact aR rfl rfl rfl rfl rfl ab a9 aJ a8;apply aa rfl;exact dW rfl rfl rfl rfl rfl aJ ab;refine ar (an (ak (ah (aa rfl (ai rfl rfl) (ar (an (aB ?_))))))))
   refine bz (fun g:Nat=>St.of [(3,o1 (.ptr 3 0)),(6,o1 (.ptr 6 0)),(7,o1 (.sl 16 0 (bH lo hi (im1,h) g).2.length)),(8,o1 (.sl 18 0 (bH lo hi (im1,h) g).2.length)),(9,vv (I6 i)),(10,vv (I6 lo)),(11,vv (I6 hi)),(12,vv (I6 g))] [(1000,cT (bH lo hi (im1,h) g).1),(1001,bG (less1.set hi (lo:Int))),(3,⟨true,149,3, .flat [.sl 1000 0 n, .sl 1001 0 n, .val (.bool b)]⟩),(6,⟨true,149,3, .flat [.val (.slice none 0 0), .val (.slice none 0 0), .val (.bool false)]⟩),(16,⟨true,2,1, .bR (aL ((bH lo hi (im1,h) g).2.map (·.1)))⟩),(18,⟨true,2,1, .bR (aL ((bH lo hi (im1,h) g).2.map (·.2)))⟩)]) (fun g=>g≤ng) (fun g=>ng - g) 0 (Nat.zero_le _) (Wk.of ⟨rfl,rfl,rfl,rfl,rfl,rfl,rfl,rfl,ag⟩ ⟨rfl,rfl,rfl,rfl,rfl,rfl,ag⟩ trivial) ?_
   intro g hg
   obtain ⟨M,N,hMN⟩:∃M N,bH lo hi (im1, []) g=(M,N):=⟨_,_,rfl⟩
   have hA:=j4 lo hi im1 h g
   have hAq:=j4 lo hi im1 q g
   obtain ⟨k1,k2,k3,k4⟩:=eP hw1 (lo:=lo) (hi:=hi) (q:= []) ae ae (fun x hx=>by simp at hx) g hg
   rw [hMN] at hA hAq k1 k2 k3 k4
   dsimp only at hA hAq k1 k2 k3 k4
   rw [hA]
   dsimp only
   have hMl:M.length=n:=k1.len.trans hn1
   have hrow:=k1.row hi ae
   have hrowl:=k1.row lo ae
   have hNl:(h ++ N).length≤2200000:=by
    have h1:i + (p :: q).length≤2100000:=by unfold fuel at hb;omega
    have h2:h.length=i + (p :: q).length:=by have:=congrArg List.length hpq;rw [List.length_drop] at this;omega
    rw [List.length_append];simp at k3;omega
   (refine ak (ak (ah (aa rfl (aj rfl rfl) ?_)));apply aa rfl;(exact aI (d:=0) rfl rfl rfl ab);apply aa rfl;exact aZ rfl ab rfl rfl rfl rfl;apply aa rfl;exact aj rfl rfl;apply aa rfl;exact aR rfl rfl rfl rfl rfl ab a9 aJ a8;apply aa rfl;exact bF rfl ab rfl rfl rfl aQ c8;apply aa rfl;exact bw rfl rfl rfl ab;refine aa rfl (aG rfl rfl rfl rfl) (ar (an ?_)))
   refine bK rfl (fun hgl=> ?_) (fun hgl=> ?_)
   ·have hgl:(g:Int) < ((bn M hi).length:Nat):=hgl
    have hg':g < ng:=by omega
    have e1:=k1.bZ hi g ae hg'
    have e2:=k1.bZ lo g ae hg'
    (refine aE (an (ak (aB (ak (ah ?_)))));apply aa rfl;(exact aI (d:=0) rfl rfl rfl ab);apply aa rfl;exact aZ rfl ab rfl rfl rfl rfl;apply aa rfl;exact aj rfl rfl;apply aa rfl;exact aR rfl rfl rfl rfl rfl ab a9 aJ a8;apply aa rfl;exact bF rfl ab rfl rfl rfl aQ c8;apply aa rfl;exact aj rfl rfl;apply aa rfl;exact bd rfl rfl rfl rfl rfl ab aQ a9 aJ a8;apply aa rfl;exact a5 rfl ab rfl rfl rfl aQ aQ;refine aa rfl (ai rfl rfl) (ar (an (ak (ak (ah (aa rfl (aj rfl rfl) (aa rfl (aG rfl rfl rfl rfl) (ar (an ?_))))))))))
    refine bK rfl (fun he=> ?_) (fun he=> ?_)
    ·have he:bZ M hi g < 0:=he
     have hstep:bH lo hi (im1,h) (g + 1)=(M,h ++ N):=by rw [bH,hA];exact if_pos he
     (refine a7 (aA (aT (an (ah (aa rfl (aj rfl rfl) ?_)))));apply aa rfl;exact aP rfl rfl rfl bA;refine aa rfl (ai rfl rfl) (ar ?_))
     exact aW (g + 1) ae ae (Wk.of (by rw [hstep];exact ⟨rfl,rfl,rfl,rfl,rfl,rfl,rfl,rfl,ag⟩) (by rw [hstep];exact ⟨rfl,rfl,rfl,rfl,rfl,rfl,ag⟩) trivial)
    ·have he:¬bZ M hi g < 0:=he
     (refine aE (an (ak (ah ?_)));apply aa rfl;(exact aI (d:=0) rfl rfl rfl ab);apply aa rfl;exact aZ rfl ab rfl rfl rfl rfl;apply aa rfl;exact aj rfl rfl;apply aa rfl;exact aR rfl rfl rfl rfl rfl ab a9 aJ a8;apply aa rfl;exact bF rfl ab rfl rfl rfl aQ c8;apply aa rfl;exact aj rfl rfl;apply aa rfl;exact bd rfl rfl rfl rfl rfl ab aQ a9 aJ a8;apply aa rfl;exact a5 rfl ab rfl rfl rfl aQ aQ;refine aa rfl (ai rfl rfl) (ar (an (ak (ah (aa rfl (aj rfl rfl) (aa rfl (aG rfl rfl rfl rfl) (ar (an ?_)))))))))
     refine bK rfl (fun hf=> ?_) (fun hf=> ?_)
     ·have hf:bZ M lo g≥0:=hf
      have hstep:bH lo hi (im1,h) (g + 1)=(M,(h ++ N) ++ [(bZ M hi g,bZ M lo g)]):=by rw [bH,hA];exact (if_neg he).trans (if_pos hf)
      (refine ak (ah (aa rfl (aj rfl rfl) (aa rfl (aj rfl rfl) ?_)));apply aa rfl;(exact bW (E:=2) rfl ab rfl);apply aa rfl;(exact bE rfl ab rfl rfl rfl (by first | rfl | assumption | (simp;done)) rfl rfl ae);refine aa rfl (ai rfl rfl) (ar (an (ah (aa rfl (aj rfl rfl) (aa rfl (aj rfl rfl) ?_)))));apply aa rfl;(exact bW (E:=2) rfl ab rfl);apply aa rfl;(exact bE rfl ab rfl rfl rfl (by first | rfl | assumption | (simp;done)) rfl rfl ae);refine aa rfl (ai rfl rfl) (ar (aM (an (ah (aa rfl (aj rfl rfl) ?_)))));apply aa rfl;exact aP rfl rfl rfl bA;refine aa rfl (ai rfl rfl) (ar ?_))
      exact aW (g + 1) ae ae (Wk.of (by rw [hstep];exact ⟨rfl,rfl,congrArg (fun x=>some (o1 (.sl 16 0 x))) (yN (h ++ N) (bZ M hi g,bZ M lo g)),congrArg (fun x=>some (o1 (.sl 18 0 x))) (yN (h ++ N) (bZ M hi g,bZ M lo g)),rfl,rfl,rfl,rfl,ag⟩) (by rw [hstep];exact ⟨rfl,rfl,rfl,rfl,congrArg (fun x=>some (⟨true,2,1, .bR (aL x)⟩:Ch)) (show (h ++ N).map (fun p=>p.1) ++ [bZ M hi g]=((h ++ N) ++ [(bZ M hi g,bZ M lo g)]).map (fun p=>p.1) by simp),congrArg (fun x=>some (⟨true,2,1, .bR (aL x)⟩:Ch)) (show (h ++ N).map (fun p=>p.2) ++ [bZ M lo g]=((h ++ N) ++ [(bZ M hi g,bZ M lo g)]).map (fun p=>p.2) by simp),ag⟩) trivial)
     ·have hf:¬bZ M lo g≥0:=hf
      have hstep:bH lo hi (im1,h) (g + 1)=(eh M lo g (bZ M hi g),h ++ N):=by rw [bH,hA];exact (if_neg he).trans (if_neg hf)
      (refine ah ?_;apply aa rfl;(exact aI (d:=0) rfl rfl rfl ab);apply aa rfl;exact aZ rfl ab rfl rfl rfl rfl;apply aa rfl;exact aj rfl rfl;apply aa rfl;exact aR rfl rfl rfl rfl rfl ab a9 aJ a8;apply aa rfl;exact bF rfl ab rfl rfl rfl aQ c8;refine aa rfl (aj rfl rfl) (aa rfl (aj rfl rfl) ?_);apply aa rfl;exact bd rfl rfl rfl rfl rfl ab aQ a9 aJ a8;apply aa rfl;exact cz rfl rfl rfl rfl rfl aJ aJ ab;refine ar (aM (an (ah (aa rfl (aj rfl rfl) ?_))));apply aa rfl;exact aP rfl rfl rfl bA;refine aa rfl (ai rfl rfl) (ar ?_))
      exact aW (g + 1) ae ae (Wk.of (by rw [hstep];exact ⟨rfl,rfl,rfl,rfl,rfl,rfl,rfl,rfl,ag⟩) (by rw [hstep];exact ⟨rfl,rfl,rfl,rfl,rfl,rfl,ag⟩) trivial)
   ·have hgl:¬(g:Int) < ((bn M hi).length:Nat):=hgl
    obtain rfl:g=ng:=by omega
    rw [hAq] at hm1 hm2 hm3 hm4
    dsimp only at hm1 hm2 hm3 hm4
    have hdr:(h ++ N).drop (i + 1)=q ++ N:=by rw [List.drop_append_of_le_length ae,hqq]
    (refine a7 (aA (aA (aT (aM (an (ah (aa rfl (aj rfl rfl) ?_)))))));apply aa rfl;exact aP rfl rfl rfl bA;refine aa rfl (ai rfl rfl) (ar ?_))
    exact aW (M,less1.set hi (lo:Int),h ++ N,i + 1) ⟨hm2,by rw [List.length_set];exact hn1,by show i + 1≤(h ++ N).length;rw [List.length_append];omega,by show nj n ((h ++ N).drop (i + 1));rw [hdr,←hn1];exact hm3,by show i + 1 + fuel _ (less1.set hi (lo:Int)) ((h ++ N).drop (i + 1))≤2100000;rw [hdr];omega,by show ident _ _ _ ((h ++ N).drop (i + 1))=R;rw [hdr,←hm1];exact hr⟩ (by show fuel _ _ ((h ++ N).drop (i + 1)) < fuel _ less1 (h.drop i);rw [hdr,hpq];exact hm4) (Wk.of ⟨rfl,rfl,rfl,rfl,rfl,ag⟩ ⟨rfl,rfl,rfl,rfl,rfl,rfl,ag⟩ trivial)
 ·have hie:h.drop i= []:=List.drop_of_length_le ae
  rw [hie,u6] at hr
  subst hr
  (refine a7 (aA (aA (aT (an (ak (ah (aa rfl (aU rfl rfl rfl rfl rfl rfl ab) ?_)))))));apply aa rfl;exact br rfl rfl rfl rfl rfl rfl rfl rfl ab rfl;refine ar (an (aS ?_)))
  exact bu (.inl rfl) rfl (.cell rfl rfl rfl rfl rfl (by kernel_rfl)) ⟨rfl,rfl,ag⟩ trivial
end Go.Proofs.YtekbhbcgoadciaaGreat
namespace Go.Proofs.YtekbhbcgoadciaaGreat
open Go.RowKit
theorem rC (ng n:Nat) (im:List (List Int)) (less:List Int) (c g:Nat) (hn:less.length=n) (hw:WF ng im less) (hc:c < n) (hg:g < ng) (h2:n≤2000) (hng:ng≤1000):
  FC Tryz.prog 177 [(1000,cT im),(1001,bG less)] [zf n n false,vv (I6 c),vv (I6 g)] [(1000,cT (ck ng im less c g).1),(1001,bG (ck ng im less c g).2.1)]
   (.tup [.agg [.sl 1000 0 (ck ng im less c g).2.1.length, .sl 1001 0 (ck ng im less c g).2.1.length, .val (.bool (ck ng im less c g).2.2.1)], .one (.val (I6 (ck ng im less c g).2.2.2))]) []:=by
 have hm:im.length=n:=hw.len.trans hn
 have hrow:=hw.row c ae
 have hrow0:=hw.row 0 ae
 have hent:=hw.bZ c g ae hg
 have h0im:0 < im.length:=by omega
 refine bj (nt:=49) Tryz.func177 rfl rfl (by simp) fun w0 ω0=> ?_
 have hF:=iM im less n n c g false hm hn hw.down ae ae ae
 (refine ak (ah (aa rfl (cF rfl rfl rfl rfl) ?_));apply aa rfl;exact cL [.slice none 0 0, .slice none 0 0, .bool false] rfl ab;refine aa rfl (ai rfl rfl) (ar (an (ak (ak (ah (aa rfl (aU rfl rfl rfl rfl rfl rfl ab) ?_))))));refine aa rfl (aj rfl rfl) (aa rfl (aj rfl rfl) ?_);apply aa rfl;(apply au 155;exact aw hF ab rfl rfl ⟨⟨.inl rfl, .inl rfl, .inl rfl,ag⟩,rfl,rfl,ag⟩ ⟨⟨_,rfl, .inr rfl⟩,⟨_,rfl, .inr rfl⟩,ag⟩ rfl rfl);refine aa rfl (ai rfl rfl) (ar (an (ak (ah (aa rfl (aj rfl rfl) (aa rfl (aG rfl rfl rfl rfl) (ar (an ?_)))))))))
 by_cases h0:0≤bZ im c g
 ·have hi:image im less c g=root less (bZ im c g).toNat:=if_neg ae
  have hx:ck ng im less c g=(im,less,false,root less (bZ im c g).toNat):=if_pos h0
  rw [hx,hi]
  dsimp only
  rw [hn]
  refine bK rfl (fun h=> ?_) (fun h=>absurd (show (root less (bZ im c g).toNat:Int)≥0 by omega) h)
  (refine ak (ah (aa rfl (aU rfl rfl rfl rfl rfl rfl ab) ?_));refine aa rfl (aj rfl rfl) (aa rfl (br rfl rfl rfl rfl rfl rfl rfl rfl ab rfl) ?_);refine aa rfl (ai rfl rfl) (ar (an (aS (aO ?_)))))
  exact bN (.inl rfl) rfl (.cell rfl rfl rfl rfl rfl (by kernel_rfl)) (.tmp rfl) ⟨rfl,rfl,ag⟩ trivial
 ·have hi:image im less c g= -1:=if_pos ae
  rw [hi]
  refine bK rfl (fun h=>absurd h (by show ¬(-1:Int)≥0;omega)) (fun h=> ?_)
  (refine aE ?_;refine an ?_;refine ak ?_)
  by_cases hf:less.length=2000
  ·have hx:ck ng im less c g=(im,less,true,0):=(if_neg h0).trans (if_pos hf)
   rw [hx]
   dsimp only
   rw [hn]
   have hD:=tg im less n n (bn im 0).length false hm hn hf
   apply eE 6 [] [[], [], [1], [1,2], [1,2,3], [1,2,3,4], [0,1,2,3,4,5], [0,1,2,3,4,5,6], [0,1,2,3,4,5,6,7], [0,1,2,3,4,5,6,7], [0,1,2,3,4,5,6,7,8], [0,1,2,3,4,5,6,7,8,9,10]] [19,20,21,22,23,24] [] (by kernel_rfl) (by kernel_rfl)
   ·(apply aK rfl;(intro S1 hS;exact aU rfl (hS.op rfl) (hS.ch _ _ rfl) rfl rfl rfl ab);apply aK rfl;(intro S1 hS;exact aI (d:=0) rfl (hS.op rfl) (hS.ch _ _ rfl) ab);apply aK rfl;(intro S1 hS;exact aZ rfl ab (hS.op rfl) (hS.ch _ _ rfl) rfl rfl);apply aK rfl;(intro S1 hS;exact aR rfl (hS.op rfl) (hS.op rfl) (hS.ch _ _ rfl) rfl ab a9 aJ a8);apply aK rfl;(intro S1 hS;exact bF rfl ab (hS.op rfl) (hS.ch _ _ rfl) rfl aQ c8);apply aK rfl;(intro S1 hS;exact bw rfl (hS.op rfl) rfl ab);exact ft.nil)
   ·rfl
   refine dI (St.of [(1,vv (I6 c)),(2,vv (I6 g)),(3,o1 (.ptr 3 0)),(6,o1 (.ptr 6 0)),(9,vv (I6 0))] [(1000,cT im),(1001,bG less),(3,⟨true,149,3, .flat [.sl 1000 0 n, .sl 1001 0 n, .val (.bool true)]⟩),(6,⟨true,149,3, .flat [.val (.slice none 0 0), .val (.slice none 0 0), .val (.bool false)]⟩)]) ?_ ?_
   ·((apply aF 6 rfl ab rfl rfl;(apply au 175;exact dc [] hD ab rfl rfl ⟨⟨.inl rfl, .inl rfl, .inl rfl,ag⟩,rfl,ag⟩ ⟨⟨_,rfl, .inl rfl⟩,⟨_,rfl, .inl rfl⟩,ag⟩ trivial rfl rfl));(apply aF 7 rfl ab rfl rfl;exact aj rfl rfl);(apply ct 8 9 rfl ab rfl rfl rfl rfl;exact aN rfl rfl rfl;exact aN rfl rfl rfl;(focus ((apply ct 9 10 rfl ab rfl rfl rfl rfl;exact aN rfl rfl rfl;exact br rfl rfl rfl rfl rfl rfl rfl rfl ab rfl;(focus ((apply aF 10 rfl ab rfl rfl;exact br rfl rfl rfl rfl rfl rfl rfl rfl ab rfl);(apply aF 11 rfl ab rfl rfl;exact ai rfl rfl);(refine bh ab ?_;exact aV (Wk.of ⟨rfl,rfl,rfl,rfl,rfl,ag⟩ ⟨rfl,rfl,rfl,rfl,ag⟩ trivial))));(focus ((apply aF 9 rfl ab rfl rfl;exact aN rfl rfl rfl);(apply aF 11 rfl ab rfl rfl;exact ai rfl rfl);(refine bh ab ?_;exact aV (Wk.of ⟨rfl,rfl,rfl,rfl,rfl,ag⟩ ⟨rfl,rfl,rfl,rfl,ag⟩ trivial)))))));(focus ((apply aF 8 rfl ab rfl rfl;exact aN rfl rfl rfl);(apply aF 10 rfl ab rfl rfl;exact br rfl rfl rfl rfl rfl rfl rfl rfl ab rfl);(apply aF 11 rfl ab rfl rfl;exact ai rfl rfl);(refine bh ab ?_;exact aV (Wk.of ⟨rfl,rfl,rfl,rfl,rfl,ag⟩ ⟨rfl,rfl,rfl,rfl,ag⟩ trivial))))))
   (refine an (ak (ak (ah ?_)));apply aa rfl;(exact aI (d:=2) rfl rfl rfl ab);apply aa rfl;exact aZ rfl ab rfl rfl rfl rfl;refine ar (an ?_))
   refine ax rfl (fun _=> ?_) (fun e=>by cases e)
   (refine ak (ah (aa rfl (aU rfl rfl rfl rfl rfl rfl ab) ?_));apply aa rfl;exact br rfl rfl rfl rfl rfl rfl rfl rfl ab rfl;refine aa rfl (ai rfl rfl) (ar (an (aS (aO ?_)))))
   exact bN (.inl rfl) rfl (.cell rfl rfl rfl rfl rfl (by kernel_rfl)) (.tmp rfl) ⟨rfl,rfl,ag⟩ trivial
  ·have hx:ck ng im less c g=(nD ng im n c g,less ++ [(n:Int)],false,n):=by rw [←hn];exact (if_neg h0).trans (if_neg hf)
   rw [hx]
   dsimp only
   rw [List.length_append,hn]
   have hD:=n9 im less n n ng false hm hn ae hng ae
   apply eE 6 [] [[], [], [1], [1,2], [1,2,3], [1,2,3,4], [0,1,2,3,4,5], [0,1,2,3,4,5,6], [0,1,2,3,4,5,6,7], [0,1,2,3,4,5,6,7], [0,1,2,3,4,5,6,7,8], [0,1,2,3,4,5,6,7,8,9,10]] [19,20,21,22,23,24] [] (by kernel_rfl) (by kernel_rfl)
   ·(apply aK rfl;(intro S1 hS;exact aU rfl (hS.op rfl) (hS.ch _ _ rfl) rfl rfl rfl ab);apply aK rfl;(intro S1 hS;exact aI (d:=0) rfl (hS.op rfl) (hS.ch _ _ rfl) ab);apply aK rfl;(intro S1 hS;exact aZ rfl ab (hS.op rfl) (hS.ch _ _ rfl) rfl rfl);apply aK rfl;(intro S1 hS;exact aR rfl (hS.op rfl) (hS.op rfl) (hS.ch _ _ rfl) rfl ab a9 aJ a8);apply aK rfl;(intro S1 hS;exact bF rfl ab (hS.op rfl) (hS.ch _ _ rfl) rfl aQ c8);apply aK rfl;(intro S1 hS;exact bw rfl (hS.op rfl) rfl ab);exact ft.nil)
   ·rfl
   refine dI (St.of [(1,vv (I6 c)),(2,vv (I6 g)),(3,o1 (.ptr 3 0)),(6,o1 (.ptr 6 0)),(9,vv (I6 n))] [(1000,cT (im ++ [List.replicate ng (-1)])),(1001,bG (less ++ [(n:Int)])),(3,⟨true,149,3, .flat [.sl 1000 0 (n + 1), .sl 1001 0 (n + 1), .val (.bool false)]⟩),(6,⟨true,149,3, .flat [.val (.slice none 0 0), .val (.slice none 0 0), .val (.bool false)]⟩)]) ?_ ?_
   ·((apply aF 6 rfl ab rfl rfl;(apply au 175;exact dc [] hD ab rfl rfl ⟨⟨.inl rfl, .inl rfl, .inl rfl,ag⟩,congrArg (fun k:Nat=>vv (I6 k)) hrow0,ag⟩ ⟨⟨_,rfl, .inl rfl⟩,⟨_,rfl, .inl rfl⟩,ag⟩ trivial rfl rfl));(apply aF 7 rfl ab rfl rfl;exact aj rfl rfl);(apply ct 8 9 rfl ab rfl rfl rfl rfl;exact aN rfl rfl rfl;exact aN rfl rfl rfl;(focus ((apply ct 9 10 rfl ab rfl rfl rfl rfl;exact aN rfl rfl rfl;exact br rfl rfl rfl rfl rfl rfl rfl rfl ab rfl;(focus ((apply aF 10 rfl ab rfl rfl;exact br rfl rfl rfl rfl rfl rfl rfl rfl ab rfl);(apply aF 11 rfl ab rfl rfl;exact ai rfl rfl);(refine bh ab ?_;exact aV (Wk.of ⟨rfl,rfl,rfl,rfl,rfl,ag⟩ ⟨rfl,rfl,rfl,rfl,ag⟩ trivial))));(focus ((apply aF 9 rfl ab rfl rfl;exact aN rfl rfl rfl);(apply aF 11 rfl ab rfl rfl;exact ai rfl rfl);(refine bh ab ?_;exact aV (Wk.of ⟨rfl,rfl,rfl,rfl,rfl,ag⟩ ⟨rfl,rfl,rfl,rfl,ag⟩ trivial)))))));(focus ((apply aF 8 rfl ab rfl rfl;exact aN rfl rfl rfl);(apply aF 10 rfl ab rfl rfl;exact br rfl rfl rfl rfl rfl rfl rfl rfl ab rfl);(apply aF 11 rfl ab rfl rfl;exact ai rfl rfl);(refine bh ab ?_;exact aV (Wk.of ⟨rfl,rfl,rfl,rfl,rfl,ag⟩ ⟨rfl,rfl,rfl,rfl,ag⟩ trivial))))))
   have h1:=(hw.app).row c (by simp;omega)
   have hlc:(bn (im ++ [List.replicate ng (-1)]) c).length=ng:=h1
   have hl:(im ++ [List.replicate ng (-1)]).length=n + 1:=by simp [hm]
   have hln:(bn (eh (im ++ [List.replicate ng (-1)]) c g n) n).length=ng:=by rw [iG,←hm,fH];simp
   have hl2:(eh (im ++ [List.replicate ng (-1)]) c g n).length=n + 1:=by rw [dB];exact hl
   (refine an (ak (ak (ah ?_)));apply aa rfl;(exact aI (d:=2) rfl rfl rfl ab);apply aa rfl;exact aZ rfl ab rfl rfl rfl rfl;refine ar (an ?_))
   refine ax rfl (fun e=>by cases e) (fun _=> ?_)
   (refine aE (an (ak (ah ?_)));apply aa rfl;(exact aI (d:=0) rfl rfl rfl ab);apply aa rfl;exact aZ rfl ab rfl rfl rfl rfl;apply aa rfl;exact aj rfl rfl;apply aa rfl;exact aR rfl rfl rfl rfl rfl ab a9 aJ a8;apply aa rfl;exact bF rfl ab rfl rfl rfl aQ c8;refine aa rfl (aj rfl rfl) (aa rfl (aj rfl rfl) ?_);apply aa rfl;exact bd rfl rfl rfl rfl rfl ab aQ a9 aJ a8;apply aa rfl;exact cz rfl rfl rfl rfl rfl aJ aJ ab;refine ar (an (ak (ah ?_)));apply aa rfl;(exact aI (d:=0) rfl rfl rfl ab);apply aa rfl;exact aZ rfl ab rfl rfl rfl rfl;apply aa rfl;exact aj rfl rfl;apply aa rfl;exact aR rfl rfl rfl rfl rfl ab a9 aJ a8;apply aa rfl;exact bF rfl ab rfl rfl rfl aQ c8;refine aa rfl (aj rfl rfl) (aa rfl (aj rfl rfl) ?_);apply aa rfl;exact bd rfl rfl rfl rfl rfl ab aQ a9 aJ a8;apply aa rfl;exact cz rfl rfl rfl rfl rfl aJ aJ ab;refine ar (an (ak (ah (aa rfl (aU rfl rfl rfl rfl rfl rfl ab) ?_))));refine aa rfl (aj rfl rfl) (aa rfl (br rfl rfl rfl rfl rfl rfl rfl rfl ab rfl) ?_);refine aa rfl (ai rfl rfl) (ar (an (aS ?_))))
   exact bN (.inl rfl) rfl (.cell rfl rfl rfl rfl rfl (by kernel_rfl)) (.tmp rfl) ⟨rfl,rfl,ag⟩ trivial
end Go.Proofs.YtekbhbcgoadciaaGreat
namespace Go.Proofs.YtekbhbcgoadciaaGreat
open Go.RowKit
section
variable {P:Program} {nt:Nat} {w0 w:World} {ω0:ml} {S S1:St} {Q:Exit→Act→World→Prop} {a:Act}
theorem kN {f:Nat} {sk:List Nat} {j:Nat} :bL (f :: sk) j=(Nat.beq j f || bL sk j):=by
 unfold bL
 rw [List.any_cons]
theorem tk {sk:List Nat} {L:Array Bool} :∀k,missing sk L k≤k:=fun k=>by
 induction k with
 | zero=>exact Nat.le_refl _
 | succ k ih=>simp only [missing];split<;>omega
theorem lL {sk:List Nat} {L:Array Bool} (f:Nat):∀k,k≤f→missing (f :: sk) L k=missing sk L k
 | 0,_=>rfl
 | k + 1,h=>by
  simp only [missing]
  rw [lL f k ae,kN,dy (by omega:k≠f),Bool.false_or]
theorem gw {sk:List Nat} {L:Array Bool} (f:Nat) (hL:L.getD f false=false) (hs:bL sk f=false):∀k,f < k→missing sk L k=missing (f :: sk) L k + 1
 | 0,h=>by omega
 | k + 1,h=>by
  simp only [missing]
  rw [kN]
  by_cases e:k=f
  ·subst e
   rw [lL k k (Nat.le_refl _),hL,hs]
   simp
  ·rw [gw f hL hs k ae,dy e,Bool.false_or];omega
theorem vX {sk:List Nat} {f nA:Nat} (hf:f < nA) (hs:bL sk f=false):missing (f :: sk) #[] nA=missing sk #[] nA - 1∧0 < missing sk #[] nA:=by
 have:=gw (sk:=sk) (L:= #[]) f (by simp) hs nA hf
 omega
def EW (ops:Array Oper) (nA:Nat) (sk:List Nat) (f:Nat) (cls:List (List Nat)):Bool:=
 Nat.ble nA ops.size && (List.range ops.size).all fun i=>match ops[i]? with
  | some o=>(Nat.ble nA i || bL sk i || o.after.all fun e=> !Region.binds .any e || (Nat.blt e.on i && !bL sk e.on)) && ((cls.getD i []).all fun j=>o.after.any fun e=>Region.binds .any e && (Nat.beq j e.on || bL (cls.getD e.on []) j)) &&
    ((Nat.blt i nA && !bL sk i) || (List.range nA).all fun j=>Nat.beq j f || bL sk j || bL (cls.getD i []) j) && (Nat.ble nA i || (cls.getD i []).all fun j=>Nat.blt j i)
  | none=>true
structure Es (ops:Array Oper) (nA:Nat) (sk:List Nat) (f:Nat) (cls:List (List Nat)):Prop where
 size:nA≤ops.size
 less:∀i o,ops[i]? =some o→i < nA→bL sk i=false→∀e∈o.after,Region.binds .any e=true→e.on < i∧bL sk e.on=false
 dep:∀i o,ops[i]? =some o→∀j∈cls.getD i [],∃e∈o.after,Region.binds .any e=true∧(j=e.on∨j∈cls.getD e.on [])
 late:∀i o,ops[i]? =some o→(nA≤i∨bL sk i=true)→∀j,j < nA→bL sk j=false→j≠f→j∈cls.getD i []
 lt:∀i o,ops[i]? =some o→i < nA→∀j∈cls.getD i [],j < i
theorem An {ops:Array Oper} {nA:Nat} {sk:List Nat} {f:Nat} {cls:List (List Nat)} (h:EW ops nA sk f cls=true):Es ops nA sk f cls:=by
 unfold EW at h
 simp only [Bool.and_eq_true,Nat.ble_eq] at h
 obtain ⟨h0,h⟩:=h
 have key:∀i o,ops[i]? =some o→_:=fun i o ho=>by
  have hi:i < ops.size:=(Array.getElem?_eq_some_iff.1 ho).1
  have h1:=List.all_eq_true.1 h i (List.mem_range.2 hi)
  simp only [ho,Bool.and_eq_true,Bool.or_eq_true] at h1
  exact h1
 refine ⟨h0,fun i o ho hi hsk e he hb=> ?_,fun i o ho j hj=> ?_,fun i o ho hi j hj hsk hf=> ?_,fun i o ho hi j hj=> ?_⟩
 ·rcases (key i o ho).1.1.1 with (h1 | h1) | h1
  ·have:=Nat.le_of_ble_eq_true h1;omega
  ·rw [hsk] at h1;cases h1
  ·have:=Array.all_eq_true_iff_forall_mem.1 h1 e he
   simp [hb] at this;exact this
 ·have:=List.all_eq_true.1 (key i o ho).1.1.2 j hj
  obtain ⟨e,he,h2⟩:=Array.any_eq_true'.1 this
  simp only [Bool.and_eq_true,Bool.or_eq_true] at h2
  exact ⟨e,he,h2.1,h2.2.imp (fun h=>beq_true h) (fun h=>cH.1 h)⟩
 ·rcases (key i o ho).1.2 with h1 | h1
  ·exfalso
   have h2:i < nA:=by simpa using h1.1
   have h3:bL sk i=false:=by simpa using h1.2
   rcases hi with h4 | h4
   ·omega
   ·rw [h3] at h4;cases h4
  ·have h2:=List.all_eq_true.1 h1 j (List.mem_range.2 hj)
   simp only [Bool.or_eq_true,hsk,dy hf,Bool.false_eq_true,false_or] at h2
   exact cH.1 h2
 ·rcases (key i o ho).2 with h1 | h1
  ·have:=Nat.le_of_ble_eq_true h1;omega
  ·exact (by have:=List.all_eq_true.1 h1 j hj;simpa using this)
theorem Ax {l:List Oper} {nA:Nat} {sk:List Nat} {cls:List (List Nat)} {ds nms:List Nat} {adds done:List Add} {f:Nat} (hfA:f < nA) (hfs:bL sk f=false) (hcl:Es l.toArray nA sk f cls) (hdr:ft P nt (S.clear ds nms) cls sk (l.take nA) [] done) (hdn:done.reverse=adds) (ok:mj adds cls ds nms)
  (hk:Rest P w0 ω0 nt l.toArray Q (l.length - missing sk #[] nA) (fa nA sk l.length) ((S.clear ds nms).part (fun j=> !bL sk j) adds))
  (hk0:Rest P w0 ω0 nt l.toArray Q (l.length - missing (f :: sk) #[] nA) (fa nA (f :: sk) l.length) ((S.clear ds nms).part (fun j=> !bL (f :: sk) j) adds)):
  ∀(d:Nat) (L:Array Bool) (a:Act) (w:World),missing sk L nA=d→L.size=l.length→(∀j,L.getD j false=true→j < nA∧bL sk j=false)→(∀i,L.getD i false=true→∀j∈cls.getD i [],L.getD j false=true)→
   Sat w0 ω0 nt ((S.clear ds nms).part (fun j=>L.getD j false) adds) a w→wpAny P .any l.toArray Q (l.length - missing sk #[] nA + d) L a w:=by
 have hsz:nA≤l.length:=by have:=hcl.size;simpa using this
 obtain ⟨⟨r,hr,hrl⟩,hob⟩:=hdr.spec
 rw [hdn] at hr hob
 have hal:adds.length=nA:=by rw [hr];simp [hrl];omega
 have hfull:∀(L:Array Bool) (i:Nat),i∈Region.ready .any l.toArray L→(∀i,L.getD i false=true→∀j∈cls.getD i [],L.getD j false=true)→(∃o,l.toArray[i]? =some o∧L.getD i true=false)∧∀j∈cls.getD i [],L.getD j false=true:=by
  intro L i hi hclosed
  obtain ⟨h0,o,ho,he⟩:=mem_ready.1 hi
  refine ⟨⟨o,ho,h0⟩,fun j hj=> ?_⟩
  obtain ⟨e,hem,hb,hje⟩:=hcl.dep i o ho j hj
  have h1:=he e hem hb
  rcases hje with rfl | hje
  ·exact h1
  ·exact hclosed e.on h1 j hje
 intro d
 induction d with
 | zero=>
  intro L a w hm hs hsub hclosed hsat
  have hall:=ei hm
  have hL:L=fa nA sk l.length:=by
   apply Array.ext
   ·simp [hs,fa]
   ·intro j h1 h2
    have h3:L[j]? =some L[j]:=Array.getElem?_eq_getElem h1
    have h4:=mC (nA:=nA) (sk:=sk) (n:=l.length) (j:=j) ae
    rw [Array.getElem?_eq_getElem h2] at h4
    rw [Option.some.inj h4]
    cases hb:L[j] with
    | true=>
     have:=hsub j (by simp [h1,hb])
     simp [this.1,this.2]
    | false=>
     by_cases hj:j < nA
     ·cases hsk:bL sk j with
      | true=>simp
      | false=>
       have:=hall j hj hsk
       simp [h1,hb] at this
     ·simp [hj]
  refine hk.go a w ((St.le.wk (oA (ℓ1:=fun j=> !bL sk j) (ℓ2:=fun j=>L.getD j false) ok (fun _ _ h=>h) fun j A hj hsk=> ?_) fun _ _ h=>h).go _ _ _ a w hsat) |> fun h=>by rw [←hL] at h;exact h
  have hjl:j < adds.length:=(List.getElem?_eq_some_iff.1 hj).1
  exact hall j ae (by simpa using hsk)
 | succ d ih=>
  intro L a w hm hs hsub hclosed hsat
  by_cases h0:missing (f :: sk) L nA=0∧L.getD f false=false
  ·obtain ⟨h0,hff⟩:=h0
   have hall:=ei h0
   have hL:L=fa nA (f :: sk) l.length:=by
    apply Array.ext
    ·simp [hs,fa]
    ·intro j h1 h2
     have h3:L[j]? =some L[j]:=Array.getElem?_eq_getElem h1
     have h4:=mC (nA:=nA) (sk:=f :: sk) (n:=l.length) (j:=j) ae
     rw [Array.getElem?_eq_getElem h2] at h4
     rw [Option.some.inj h4]
     cases hb:L[j] with
     | true=>
      have:=hsub j (by simp [h1,hb])
      have hjf:j≠f:=fun e=>by subst e;simp [h1,hb] at hff
      rw [kN,this.2,dy hjf];simp [this.1]
     | false=>
      by_cases hj:j < nA
      ·cases hsk:bL (f :: sk) j with
       | true=>simp
       | false=>
        have:=hall j hj hsk
        simp [h1,hb] at this
      ·simp [hj]
   have hd:missing (f :: sk) #[] nA=missing sk #[] nA - 1∧0 < missing sk #[] nA:=vX hfA hfs
   have hd1:d=0:=by
    have:=gw (sk:=sk) (L:=L) f hff hfs nA hfA
    omega
   subst hd1
   have hmn:∀k,missing sk #[] k≤k:=tk
   have:=hmn nA
   have e:l.length - missing (f :: sk) #[] nA=l.length - missing sk #[] nA + (0 + 1):=by omega
   rw [←e]
   refine hk0.go a w ((St.le.wk (oA (ℓ1:=fun j=> !bL (f :: sk) j) (ℓ2:=fun j=>L.getD j false) ok (fun _ _ h=>h) fun j A hj hsk=> ?_) fun _ _ h=>h).go _ _ _ a w hsat) |> fun h=>by rw [←hL] at h;exact h
   have hjl:j < adds.length:=(List.getElem?_eq_some_iff.1 hj).1
   exact hall j ae (by simpa using hsk)
  refine ⟨fun hnil=> ?_,fun i hi=> ?_⟩
  ·exfalso
   obtain ⟨j,hj,hjs',hjf,hlo⟩:=fY (k:=nA) (by omega:missing sk L nA≠0)
   have hjl:j < l.length:=by omega
   have hjs:j < L.size:=by omega
   have:j∈Region.ready .any l.toArray L:=by
    refine mem_ready.2 ⟨?_,l[j],by simp [hjl],fun e he hb=> ?_⟩
    ·simp [hjs] at hjf ⊢
     exact hjf
    ·have h5:=hcl.less j l[j] (by simp [hjl]) hj hjs' e he hb
     exact hlo e.on h5.1 h5.2
   rw [hnil] at this;cases this
  ·obtain ⟨⟨o,ho,hi0⟩,hdep⟩:=hfull L i hi hclosed
   have hil:i < l.length:=by have:=(Array.getElem?_eq_some_iff.1 ho).1;simpa using this
   have his:i < L.size:=by omega
   have hif:L.getD i false=false:=by simp [his] at hi0 ⊢;exact hi0
   have hnl:¬(nA≤i∨bL sk i=true):=fun h=>by
    have h1:=eM (sk:=f :: sk) (L:=L) (k:=nA) fun j hj hsk=>by
     rw [kN] at hsk
     simp only [Bool.or_eq_false_iff] at hsk
     exact hdep j (hcl.late i o ho h j hj hsk.2 fun e=>by subst e;simp at hsk)
    refine h0 ⟨h1, ?_⟩
    cases hff:L.getD f false with
    | false=>rfl
    | true=>
     have:=ei h1
     have h2:=eM (sk:=sk) (L:=L) (k:=nA) fun j hj hsk=>by
      by_cases e:j=f
      ·subst e;exact hff
      ·exact this j hj (by rw [kN,hsk,dy e];rfl)
     omega
   have hiA:i < nA:=by
    rcases Nat.lt_or_ge i nA with h | h
    ·exact h
    ·exact absurd (.inl h) hnl
   have hisk:bL sk i=false:=by
    cases hsk:bL sk i with
    | false=>rfl
    | true=>exact absurd (.inr hsk) hnl
   have hot:(l.take nA)[i]? =some o:=by rw [List.getElem?_take,if_pos hiA];simpa using ho
   obtain ⟨A,hA,hg,hstp⟩:=hob i o hot (by simpa using hisk)
   simp only [List.length_nil,Nat.zero_add] at hA hstp
   have hle:((S.clear ds nms).gG (bL (cls.getD i [])) (adds.take i).reverse).le ((S.clear ds nms).part (fun j=>L.getD j false) adds):=g9 ok (fun j B hj=>by
     rw [List.reverse_reverse] at hj
     rw [List.getElem?_take] at hj;split at hj
     ·exact hj
     ·cases hj) fun j B _ hj=>hdep j (cH.1 hj)
   have hst:=(hstp _ hle).go w0 ω0 a w Q hsat
   unfold wpOp
   simp only [ho]
   rw [if_pos (by simp [Region.wanted,hg])]
   refine .inl (Oper.wp_mono (fun a' w' hsat'=> ?_) hst)
   have hsat2:=(wz ok hA hif fun j hj hm'=>by have:=hclosed j hj i hm';rw [hif] at this;cases this).go _ _ _ a' w' hsat'
   have hnew:∀j,(L.setIfInBounds i true).getD j false=(Nat.beq j i || L.getD j false):=fun j=>by
    by_cases e:j=i
    ·subst e;simp [his]
    ·rw [getD_set_ne false (fun e'=>e e'.symm),dy e,Bool.false_or]
   refine ih (L.setIfInBounds i true) a' w' ?_ (by simp [hs]) (fun j hj=> ?_) (fun j hj k hk'=> ?_) ?_
   ·have:=iJ his hif hisk nA hiA;omega
   ·rw [hnew] at hj
    by_cases e:j=i
    ·rw [e];exact ⟨hiA,hisk⟩
    ·rw [dy e,Bool.false_or] at hj;exact hsub j hj
   ·rw [hnew] at hj ⊢
    by_cases e:j=i
    ·subst e;rw [hdep k hk'];simp
    ·rw [dy e,Bool.false_or] at hj;rw [hclosed j hj k hk'];simp
   ·have:(fun j=>(L.setIfInBounds i true).getD j false)=fun j=>(Nat.beq j i || L.getD j false):=funext hnew
    rw [this];exact hsat2
theorem ny {id:Nat} {l:List Oper} (nA:Nat) (sk:List Nat) (f:Nat) (cls:List (List Nat)) (ds nms:List Nat) {done:List Add} (hm:P.follows .mixedOrders=true) (hcl:EW l.toArray nA sk f cls=true) (hf':(Nat.blt f nA && !bL sk f)=true) (hdr:ft P nt (S.clear ds nms) cls sk (l.take nA) [] done) (ok:uZ done.reverse cls ds nms=true)
  (hk:Rest P w0 ω0 nt l.toArray Q (l.length - missing sk #[] nA) (fa nA sk l.length) ((S.clear ds nms).gG (fun j=> !bL sk j) done))
  (hk0:Rest P w0 ω0 nt l.toArray Q (l.length - missing (f :: sk) #[] nA) (fa nA (f :: sk) l.length) ((S.clear ds nms).gG (fun j=> !bL (f :: sk) j) done)):fJ P w0 ω0 nt S (.region id l.toArray true) Q:=by
 have hc:=An hcl
 have hsz:nA≤l.length:=by have:=hc.size;simpa using this
 have hk':Rest P w0 ω0 nt l.toArray Q (l.length - missing sk #[] nA) (fa nA sk l.length) ((S.clear ds nms).part (fun j=> !bL sk j) done.reverse):=
  ⟨fun a w hs=>hk.go a w ((St.le.wk (g9 (fk ok) (fun _ _ h=>h) fun _ _ _ h=>h) fun _ _ h=>h).go _ _ _ a w hs)⟩
 have hk0':Rest P w0 ω0 nt l.toArray Q (l.length - missing (f :: sk) #[] nA) (fa nA (f :: sk) l.length) ((S.clear ds nms).part (fun j=> !bL (f :: sk) j) done.reverse):=
  ⟨fun a w hs=>hk0.go a w ((St.le.wk (g9 (fk ok) (fun _ _ h=>h) fun _ _ _ h=>h) fun _ _ h=>h).go _ _ _ a w hs)⟩
 have hfA:f < nA:=by simp only [Bool.and_eq_true] at hf';simpa using hf'.1
 have hfs:bL sk f=false:=by simp only [Bool.and_eq_true] at hf';simpa using hf'.2
 have hle:∀k,missing sk #[] k≤k:=fun k=>by
  induction k with
  | zero=>exact Nat.le_refl _
  | succ k ih=>simp only [missing];split<;>omega
 refine ⟨fun a w hs=>wp_region_any hm ?_⟩
 have hfin:=Ax hfA hfs hc hdr rfl (fk ok) hk' hk0' (missing sk #[] nA) (Array.replicate l.length false) a { w with drawn:=w.drawn + 1 } ?_ (by simp) (fun j hj=> ?_) (fun i hi=> ?_) ?_
 ·have:=hle nA
  rw [show l.length - missing sk #[] nA + missing sk #[] nA=l.length by omega] at hfin
  simpa using hfin
 ·have:∀k,k≤l.length→missing sk (Array.replicate l.length false) k=missing sk #[] k:=fun k=>by
   induction k with
   | zero=>intro _;rfl
   | succ k ih=>
    intro hk
    simp only [missing]
    rw [ih ae]
    have:(Array.replicate l.length false).getD k false=false:=by simp [show k < l.length by omega]
    rw [this];rfl
  exact this nA hsz
 ·exfalso
  by_cases h:j < l.length
  ·simp [h] at hj
  ·simp [h] at hj
 ·exfalso
  by_cases h:i < l.length
  ·simp [h] at hi
  ·simp [h] at hi
 ·have h1:=(oI S ds nms).go _ _ _ a _ (oy hs)
  have hf:∀j,(Array.replicate l.length false).getD j false=false:=fun j=>by
   by_cases h:j < l.length<;>simp [h]
  refine (Wk.less (S:=S.clear ds nms) (S':=(S.clear ds nms).part (fun j=>(Array.replicate l.length false).getD j false) done.reverse) (fun t av h=> ?_) (fun x c h=> ?_) fun _ _ h=>h).go _ _ _ a _ h1
  ·have h:(match wI (fun j=>(Array.replicate l.length false).getD j false) 0 done.reverse t with | some av=>some av | none=>(S.clear ds nms).sl t)=some av:=h
   split at h
   ·rename_i av' h2
    obtain ⟨j,A,_,h3,_⟩:=gk h2
    rw [hf] at h3;cases h3
   ·exact h
  ·have h:(match wF (fun j=>(Array.replicate l.length false).getD j false) 0 done.reverse x with | some c=>some c | none=>(S.clear ds nms).ch x)=some c:=h
   split at h
   ·rename_i av' h2
    obtain ⟨j,A,_,h3,_⟩:=gq h2
    rw [hf] at h3;cases h3
   ·exact h
theorem lB {N:Nat} (i j k:Nat) {ops:Array Oper} {L:Array Bool} {o o' o'':Oper} {S2 S3:St} (hN:Nat.blt 0 N=true) (hr:Region.ready .any ops L= [i,j,k]) (ho:ops[i]? =some o) (ho':ops[j]? =some o') (ho'':ops[k]? =some o'') (hg:o.guard=none) (hg':o'.guard=none) (hg'':o''.guard=none)
  (h:cu P nt o S S1) (h':cu P nt o' S S2) (h'':cu P nt o'' S S3)
  (k1:Rest P w0 ω0 nt ops Q (N - 1) (L.setIfInBounds i true) S1) (k2:Rest P w0 ω0 nt ops Q (N - 1) (L.setIfInBounds j true) S2) (k3:Rest P w0 ω0 nt ops Q (N - 1) (L.setIfInBounds k true) S3):Rest P w0 ω0 nt ops Q N L S:=by
 have hN':0 < N:=by simpa using hN
 obtain ⟨n,rfl⟩:∃n,N=n + 1:=⟨N - 1,ae⟩
 exact ⟨fun a w hs=>wpAny_all hr (by simp) fun i' hi'=>by
  simp at hi'
  rcases hi' with rfl | rfl | rfl
  ·unfold wpOp
   simp only [ho]
   rw [if_pos (by simp [Region.wanted,hg])]
   exact .inl (Oper.wp_mono (fun a' w' h'=>k1.go a' w' h') (h.go w0 ω0 a w Q hs))
  ·unfold wpOp
   simp only [ho']
   rw [if_pos (by simp [Region.wanted,hg'])]
   exact .inl (Oper.wp_mono (fun a' w' h'=>k2.go a' w' h') (h'.go w0 ω0 a w Q hs))
  ·unfold wpOp
   simp only [ho'']
   rw [if_pos (by simp [Region.wanted,hg''])]
   exact .inl (Oper.wp_mono (fun a' w' h'=>k3.go a' w' h') (h''.go w0 ω0 a w Q hs))⟩
end
end Go.Proofs.YtekbhbcgoadciaaGreat
namespace Go.Proofs.YtekbhbcgoadciaaGreat
open Go.RowKit
theorem qp (ng n:Nat) (im:List (List Int)) (less:List Int) (c:Nat) (wss:List (List Int)) (i k:Nat) (W:List Int) (hn:less.length=n) (hw:WF ng im less) (hc:c < n) (h2:n≤2000) (hng:ng≤1000) (hi:i < wss.length) (hW:bn wss i=W) (hk:W.length=k) (hk2:k≤1000000000) (hg:∀z∈W,0≤z∧z < ng) (C:List (List Int)×List Int×Bool) (hC:db ng im less c (W.map Int.toNat)=C):
  FC Tryz.prog 176 [(1000,cT im),(1001,bG less),(1002,a6 wss)] [zf n n false,vv (I6 c),o1 (.esl 1002 i 0 k)] [(1000,cT C.1),(1001,bG C.2.1)]
   (.s (.agg [.sl 1000 0 C.2.1.length, .sl 1001 0 C.2.1.length, .val (.bool C.2.2)])) []:=by
 have hrowW:(bV wss)[i]? =some (aL W):=by rw [←hW];exact cf hi
 refine bj (nt:=86) Tryz.func176 rfl rfl (by simp) fun w0 ω0=> ?_
 (refine ak (ah (aa rfl (cF rfl rfl rfl rfl) ?_));apply aa rfl;exact cL [.slice none 0 0, .slice none 0 0, .bool false] rfl ab;refine ar (an (ak (ak (ah (aa rfl (aj rfl rfl) (aa rfl (bw rfl rfl rfl ab) ?_))))));refine aa rfl (aG rfl rfl rfl rfl) (ar (an ?_)))
 by_cases h0:k=0
 ·have hWe:W= []:=List.length_eq_zero_iff.1 (hk.trans h0)
  have hx:C=(im,less,false):=by rw [←hC,hWe];rfl
  subst hx
  dsimp only
  rw [hn]
  refine bK rfl (fun h=> ?_) (fun h=>absurd (show (k:Int)=0 by omega) h)
  (refine ak (ah (aa rfl (aU rfl rfl rfl rfl rfl rfl ab) ?_));apply aa rfl;exact br rfl rfl rfl rfl rfl rfl rfl rfl ab rfl;refine ar (an (aS (aO ?_))))
  exact bu (.inl rfl) rfl (.cell rfl rfl rfl rfl rfl (by kernel_rfl)) ⟨rfl,rfl,ag⟩ trivial
 ·obtain ⟨g,hgl⟩:∃g,(W.map Int.toNat).getLast?=some g:=by
   cases hh:(W.map Int.toNat).getLast? with
   | some g=>exact ⟨g,rfl⟩
   | none=>
    have:W.map Int.toNat= []:=List.getLast?_eq_none_iff.1 hh
    simp at this;subst this;exact absurd hk.symm h0
  refine bK rfl (fun h=>absurd (show (k:Int)=0 from h) ae) (fun _=> ?_)
  (refine aE (an (ak (ah (aa rfl (aj rfl rfl) (aa rfl (ai rfl rfl) (ar (an (ak (ak (ah (aa rfl (ai rfl rfl) ?_)))))))))));refine ar (an (aB ?_)))
  have step:∀j,j < k→(W.map Int.toNat).take (j + 1)=(W.map Int.toNat).take j ++ [(aC W j).toNat]:=fun j hj=>by
   rw [List.take_succ_eq_append_getElem (by simp;omega)];simp [cX (show j < W.length by omega)]
  refine bz (fun j:Nat×(List (List Int)×List Int×Bool×Nat)=>St.of [(1,vv (I6 c)),(2,o1 (.esl 1002 i 0 k)),(3,o1 (.ptr 3 0)),(6,o1 (.ptr 6 0)),(7,vv (I6 j.2.2.2.2)),(8,vv (I6 j.1))]
    [(1000,cT j.2.1),(1001,bG j.2.2.1),(1002,a6 wss),(3,⟨true,149,3, .flat [.sl 1000 0 j.2.2.1.length, .sl 1001 0 j.2.2.1.length, .val (.bool false)]⟩),(6,⟨true,149,3, .flat [.val (.slice none 0 0), .val (.slice none 0 0), .val (.bool false)]⟩)])
   (fun j=>j.1 < k∧j.2.2.2.1=false∧ic ng (im,less,false,c) ((W.map Int.toNat).take j.1)=j.2∧vW ng n j.2)
   (fun j=>k - j.1) (0,(im,less,false,c)) ⟨ae,rfl,rfl,⟨hw,by show n≤less.length;omega,by show less.length≤2000;omega,by show c < less.length;omega⟩⟩ (Wk.of ⟨rfl,rfl,rfl,rfl,rfl,rfl,ag⟩ (by dsimp only;rw [hn];exact ⟨rfl,rfl,rfl,rfl,rfl,ag⟩) trivial) ?_
  rintro ⟨j,M,N,b,d⟩ ⟨hj,hb,hgo,hok⟩
  dsimp only at hj hb hgo hok ⊢
  subst hb
  obtain ⟨hw1,hlo,hhi,hd⟩:=hok
  dsimp only at hw1 hlo hhi hd
  have hm1:=hw1.len
  (refine ak (ak (ah (aa rfl (aj rfl rfl) ?_)));apply aa rfl;exact aP rfl rfl rfl bA;refine aa rfl (aj rfl rfl) (aa rfl (bw rfl rfl rfl ab) ?_);refine aa rfl (aG rfl rfl rfl rfl) (ar (an ?_)))
  refine bK rfl (fun hlt=> ?_) (fun hlt=> ?_)
  ·have hlt:((j:Int) + 1) < (k:Nat):=hlt
   have hgj:=hg (aC W j) (eH ae)
   (refine aE ?_;refine an ?_;refine ak ?_;refine aB ?_;refine ak ?_)
   obtain ⟨R,hR⟩:∃R,ck ng M N d (aC W j).toNat=R:=⟨_,rfl⟩
   have hN:=rC ng N.length M N d (aC W j).toNat rfl hw1 hd ae hhi hng
   have hok':=gV hw1 hd (show (aC W j).toNat < ng by omega) hhi
   have hgo':ic ng (im,less,false,c) ((W.map Int.toNat).take (j + 1))=R:=by
    rw [step j hj,mO,hgo,←hR];rfl
   rw [hR] at hN hok'
   obtain ⟨M',N',b',d'⟩:=R
   dsimp only at hN hok'
   obtain ⟨k1,k2,k3,k4,_⟩:=hok'
   apply ny 11 [6,7,8,9] 10 [[], [], [], [], [2,3], [2,3,4], [0,1,2,3,4,5], [0,1,2,3,4,5,6], [0,1,2,3,4,5,6,7], [0,1,2,3,4,5,6,7], [], [0,1,2,3,4,5,6,7,8,10], [0,1,2,3,4,5,6,7,8,9,10,11]] [27,28,29,30,31,32,1000006,1000007,1000008,1000009,9] [9] (by kernel_rfl) (by kernel_rfl) rfl
   ·(apply aK rfl;(intro S1 hS;exact aU rfl (hS.op rfl) (hS.ch _ _ rfl) rfl rfl rfl ab);apply aK rfl;(intro S1 hS;exact aj rfl (hS.op rfl));apply aK rfl;(intro S1 hS;exact aj rfl (hS.op rfl));apply aK rfl;(intro S1 hS;exact aj rfl (hS.op rfl));apply aK rfl;(intro S1 hS;exact bd rfl (hS.op rfl) (hS.op rfl) (hS.ch _ _ rfl) rfl ab aQ a9 aJ a8);apply aK rfl;(intro S1 hS;exact a5 rfl ab (hS.op rfl) (hS.ch _ _ rfl) rfl aQ aQ);apply mK rfl;apply mK rfl;apply mK rfl;apply mK rfl;apply gU rfl;(intro S1 hS;exact cL [.slice none 0 0, .slice none 0 0, .bool false] rfl ab);exact ft.nil)
   ·rfl
   ·refine dI (St.of [(1,vv (I6 c)),(2,o1 (.esl 1002 i 0 k)),(3,o1 (.ptr 3 0)),(6,o1 (.ptr 6 0)),(8,vv (I6 j)),(9,o1 (.ptr 9 0)),(10,vv (I6 d'))] [(1000,cT M'),(1001,bG N'),(1002,a6 wss),(3,⟨true,149,3, .flat [.any, .any, .val (.bool false)]⟩),(6,⟨true,149,3, .flat [.val (.slice none 0 0), .val (.slice none 0 0), .val (.bool false)]⟩),(9,⟨true,149,3, .flat [.sl 1000 0 N'.length, .sl 1001 0 N'.length, .val (.bool b')]⟩)]) ?_ ?_
    ·((apply aF 6 rfl ab rfl rfl;(apply au 177;exact dc [] hN ab rfl rfl ⟨⟨.inl rfl, .inl rfl, .inl rfl,ag⟩,rfl,GJ ae,ag⟩ ⟨⟨_,rfl, .inl rfl⟩,⟨_,rfl, .inl rfl⟩,ag⟩ trivial rfl rfl));(apply aF 7 rfl ab rfl rfl;exact aj rfl rfl);(apply ct 8 9 rfl ab rfl rfl rfl rfl;exact aN rfl rfl rfl;exact aN rfl rfl rfl;(focus ((apply ct 9 11 rfl ab rfl rfl rfl rfl;exact aN rfl rfl rfl;exact br rfl rfl rfl rfl rfl rfl rfl rfl ab rfl;(focus ((apply aF 11 rfl ab rfl rfl;exact br rfl rfl rfl rfl rfl rfl rfl rfl ab rfl);(apply aF 12 rfl ab rfl rfl;exact ai rfl rfl);(refine bh ab ?_;exact aV (Wk.of ⟨rfl,rfl,rfl,rfl,rfl,rfl,rfl,ag⟩ ⟨rfl,rfl,rfl,rfl,rfl,rfl,ag⟩ trivial))));(focus ((apply aF 9 rfl ab rfl rfl;exact aN rfl rfl rfl);(apply aF 12 rfl ab rfl rfl;exact ai rfl rfl);(refine bh ab ?_;exact aV (Wk.of ⟨rfl,rfl,rfl,rfl,rfl,rfl,rfl,ag⟩ ⟨rfl,rfl,rfl,rfl,rfl,rfl,ag⟩ trivial)))))));(focus ((apply aF 8 rfl ab rfl rfl;exact aN rfl rfl rfl);(apply aF 11 rfl ab rfl rfl;exact br rfl rfl rfl rfl rfl rfl rfl rfl ab rfl);(apply aF 12 rfl ab rfl rfl;exact ai rfl rfl);(refine bh ab ?_;exact aV (Wk.of ⟨rfl,rfl,rfl,rfl,rfl,rfl,rfl,ag⟩ ⟨rfl,rfl,rfl,rfl,rfl,rfl,ag⟩ trivial))))))
    have hmN:=k1.len
    (refine an (ak (ah (aa rfl (aU rfl rfl rfl rfl rfl rfl ab) ?_)));apply aa rfl;exact br rfl rfl rfl rfl rfl rfl rfl rfl ab rfl;refine ar (an (ak (ah (aa rfl (aj rfl rfl) (aa rfl (ai rfl rfl) (ar (an (ak (ah ?_)))))))));apply aa rfl;(exact aI (d:=2) rfl rfl rfl ab);apply aa rfl;exact aZ rfl ab rfl rfl rfl rfl;refine ar (an ?_))
    by_cases hb':b'=true
    ·subst hb'
     have hx:C=(M',N',true):=by
      rw [←hC];unfold db
      rw [hgl]
      dsimp only
      have e:ic ng (im,less,false,c) (W.map Int.toNat).dropLast=(M',N',true,d'):=by
       have e1:(W.map Int.toNat).dropLast=(W.map Int.toNat).take (j + 1) ++ ((W.map Int.toNat).take (k - 1)).drop (j + 1):=by
        rw [List.dropLast_eq_take,List.length_map,hk]
        conv=>lhs;rw [←List.take_append_drop (j + 1) ((W.map Int.toNat).take (k - 1))]
        rw [List.take_take,show min (j + 1) (k - 1)=j + 1 by omega]
       rw [e1,mO,hgo',ij rfl]
      rw [e]
      rfl
     subst hx
     refine ax rfl (fun _=> ?_) (fun e=>by cases e)
     (refine ak (ah (aa rfl (aU rfl rfl rfl rfl rfl rfl ab) ?_));apply aa rfl;exact br rfl rfl rfl rfl rfl rfl rfl rfl ab rfl;refine ar (an (aS (bt (aO (aO (bt (aO ?_))))))))
     exact bu (.inl rfl) rfl (.cell rfl rfl rfl rfl rfl (by kernel_rfl)) ⟨rfl,rfl,ag⟩ trivial
    ·have hb':b'=false:=by simpa using hb'
     subst hb'
     refine ax rfl (fun e=>by cases e) (fun _=> ?_)
     (refine aE (aM (an (ah (aa rfl (aj rfl rfl) ?_))));apply aa rfl;exact aP rfl rfl rfl bA;refine aa rfl (ai rfl rfl) (ar ?_))
     exact aW (j + 1,(M',N',false,d')) ⟨ae,rfl,hgo',⟨k1,Nat.le_trans hlo k2,k3,k4⟩⟩ (by show k - (j + 1) < k - j;omega) (Wk.of ⟨rfl,rfl,rfl,rfl,rfl,rfl,ag⟩ ⟨rfl,rfl,rfl,rfl,rfl,ag⟩ trivial)
   ·refine dI (St.of [(1,vv (I6 c)),(2,o1 (.esl 1002 i 0 k)),(3,o1 (.ptr 3 0)),(6,o1 (.ptr 6 0)),(8,vv (I6 j)),(9,o1 (.ptr 9 0)),(10,vv (I6 d'))] [(1000,cT M'),(1001,bG N'),(1002,a6 wss),(3,⟨true,149,3, .flat [.any, .any, .val (.bool false)]⟩),(6,⟨true,149,3, .flat [.val (.slice none 0 0), .val (.slice none 0 0), .val (.bool false)]⟩),(9,⟨true,149,3, .flat [.sl 1000 0 N'.length, .sl 1001 0 N'.length, .val (.bool b')]⟩)]) ?_ ?_
    ·((apply ct 6 10 rfl ab rfl rfl rfl rfl;(apply au 177;exact dc [] hN ab rfl rfl ⟨⟨.inl rfl, .inl rfl, .inl rfl,ag⟩,rfl,GJ ae,ag⟩ ⟨⟨_,rfl, .inl rfl⟩,⟨_,rfl, .inl rfl⟩,ag⟩ trivial rfl rfl);exact cL [.slice none 0 0, .slice none 0 0, .bool false] rfl ab;(focus ((apply ct 7 10 rfl ab rfl rfl rfl rfl;exact aj rfl rfl;exact cL [.slice none 0 0, .slice none 0 0, .bool false] rfl ab;(focus ((apply lB 8 9 10 rfl ab rfl rfl rfl rfl rfl rfl;exact aN rfl rfl rfl;exact aN rfl rfl rfl;exact cL [.slice none 0 0, .slice none 0 0, .bool false] rfl ab;(focus ((apply ct 9 10 rfl ab rfl rfl rfl rfl;exact aN rfl rfl rfl;exact cL [.slice none 0 0, .slice none 0 0, .bool false] rfl ab;(focus ((apply aF 10 rfl ab rfl rfl;exact cL [.slice none 0 0, .slice none 0 0, .bool false] rfl ab);(apply aF 11 rfl ab rfl rfl;exact br rfl rfl rfl rfl rfl rfl rfl rfl ab rfl);(apply aF 12 rfl ab rfl rfl;exact ai rfl rfl);(refine bh ab ?_;exact aV (Wk.of ⟨rfl,rfl,rfl,rfl,rfl,rfl,rfl,ag⟩ ⟨rfl,rfl,rfl,rfl,rfl,rfl,ag⟩ trivial))));(focus ((apply ct 9 11 rfl ab rfl rfl rfl rfl;exact aN rfl rfl rfl;exact br rfl rfl rfl rfl rfl rfl rfl rfl ab rfl;(focus ((apply aF 11 rfl ab rfl rfl;exact br rfl rfl rfl rfl rfl rfl rfl rfl ab rfl);(apply aF 12 rfl ab rfl rfl;exact ai rfl rfl);(refine bh ab ?_;exact aV (Wk.of ⟨rfl,rfl,rfl,rfl,rfl,rfl,rfl,ag⟩ ⟨rfl,rfl,rfl,rfl,rfl,rfl,ag⟩ trivial))));(focus ((apply aF 9 rfl ab rfl rfl;exact aN rfl rfl rfl);(apply aF 12 rfl ab rfl rfl;exact ai rfl rfl);(refine bh ab ?_;exact aV (Wk.of ⟨rfl,rfl,rfl,rfl,rfl,rfl,rfl,ag⟩ ⟨rfl,rfl,rfl,rfl,rfl,rfl,ag⟩ trivial))))))))));(focus ((apply ct 8 10 rfl ab rfl rfl rfl rfl;exact aN rfl rfl rfl;exact cL [.slice none 0 0, .slice none 0 0, .bool false] rfl ab;(focus ((apply aF 10 rfl ab rfl rfl;exact cL [.slice none 0 0, .slice none 0 0, .bool false] rfl ab);(apply aF 11 rfl ab rfl rfl;exact br rfl rfl rfl rfl rfl rfl rfl rfl ab rfl);(apply aF 12 rfl ab rfl rfl;exact ai rfl rfl);(refine bh ab ?_;exact aV (Wk.of ⟨rfl,rfl,rfl,rfl,rfl,rfl,rfl,ag⟩ ⟨rfl,rfl,rfl,rfl,rfl,rfl,ag⟩ trivial))));(focus ((apply aF 8 rfl ab rfl rfl;exact aN rfl rfl rfl);(apply aF 11 rfl ab rfl rfl;exact br rfl rfl rfl rfl rfl rfl rfl rfl ab rfl);(apply aF 12 rfl ab rfl rfl;exact ai rfl rfl);(refine bh ab ?_;exact aV (Wk.of ⟨rfl,rfl,rfl,rfl,rfl,rfl,rfl,ag⟩ ⟨rfl,rfl,rfl,rfl,rfl,rfl,ag⟩ trivial)))))));(focus ((apply ct 8 9 rfl ab rfl rfl rfl rfl;exact aN rfl rfl rfl;exact aN rfl rfl rfl;(focus ((apply ct 9 11 rfl ab rfl rfl rfl rfl;exact aN rfl rfl rfl;exact br rfl rfl rfl rfl rfl rfl rfl rfl ab rfl;(focus ((apply aF 11 rfl ab rfl rfl;exact br rfl rfl rfl rfl rfl rfl rfl rfl ab rfl);(apply aF 12 rfl ab rfl rfl;exact ai rfl rfl);(refine bh ab ?_;exact aV (Wk.of ⟨rfl,rfl,rfl,rfl,rfl,rfl,rfl,ag⟩ ⟨rfl,rfl,rfl,rfl,rfl,rfl,ag⟩ trivial))));(focus ((apply aF 9 rfl ab rfl rfl;exact aN rfl rfl rfl);(apply aF 12 rfl ab rfl rfl;exact ai rfl rfl);(refine bh ab ?_;exact aV (Wk.of ⟨rfl,rfl,rfl,rfl,rfl,rfl,rfl,ag⟩ ⟨rfl,rfl,rfl,rfl,rfl,rfl,ag⟩ trivial)))))));(focus ((apply aF 8 rfl ab rfl rfl;exact aN rfl rfl rfl);(apply aF 11 rfl ab rfl rfl;exact br rfl rfl rfl rfl rfl rfl rfl rfl ab rfl);(apply aF 12 rfl ab rfl rfl;exact ai rfl rfl);(refine bh ab ?_;exact aV (Wk.of ⟨rfl,rfl,rfl,rfl,rfl,rfl,rfl,ag⟩ ⟨rfl,rfl,rfl,rfl,rfl,rfl,ag⟩ trivial))))))))));(focus ((apply aF 7 rfl ab rfl rfl;exact aj rfl rfl);(apply ct 8 9 rfl ab rfl rfl rfl rfl;exact aN rfl rfl rfl;exact aN rfl rfl rfl;(focus ((apply ct 9 11 rfl ab rfl rfl rfl rfl;exact aN rfl rfl rfl;exact br rfl rfl rfl rfl rfl rfl rfl rfl ab rfl;(focus ((apply aF 11 rfl ab rfl rfl;exact br rfl rfl rfl rfl rfl rfl rfl rfl ab rfl);(apply aF 12 rfl ab rfl rfl;exact ai rfl rfl);(refine bh ab ?_;exact aV (Wk.of ⟨rfl,rfl,rfl,rfl,rfl,rfl,rfl,ag⟩ ⟨rfl,rfl,rfl,rfl,rfl,rfl,ag⟩ trivial))));(focus ((apply aF 9 rfl ab rfl rfl;exact aN rfl rfl rfl);(apply aF 12 rfl ab rfl rfl;exact ai rfl rfl);(refine bh ab ?_;exact aV (Wk.of ⟨rfl,rfl,rfl,rfl,rfl,rfl,rfl,ag⟩ ⟨rfl,rfl,rfl,rfl,rfl,rfl,ag⟩ trivial)))))));(focus ((apply aF 8 rfl ab rfl rfl;exact aN rfl rfl rfl);(apply aF 11 rfl ab rfl rfl;exact br rfl rfl rfl rfl rfl rfl rfl rfl ab rfl);(apply aF 12 rfl ab rfl rfl;exact ai rfl rfl);(refine bh ab ?_;exact aV (Wk.of ⟨rfl,rfl,rfl,rfl,rfl,rfl,rfl,ag⟩ ⟨rfl,rfl,rfl,rfl,rfl,rfl,ag⟩ trivial))))))))));(focus ((apply aF 6 rfl ab rfl rfl;(apply au 177;exact dc [] hN ab rfl rfl ⟨⟨.inl rfl, .inl rfl, .inl rfl,ag⟩,rfl,GJ ae,ag⟩ ⟨⟨_,rfl, .inl rfl⟩,⟨_,rfl, .inl rfl⟩,ag⟩ trivial rfl rfl));(apply aF 7 rfl ab rfl rfl;exact aj rfl rfl);(apply ct 8 9 rfl ab rfl rfl rfl rfl;exact aN rfl rfl rfl;exact aN rfl rfl rfl;(focus ((apply ct 9 11 rfl ab rfl rfl rfl rfl;exact aN rfl rfl rfl;exact br rfl rfl rfl rfl rfl rfl rfl rfl ab rfl;(focus ((apply aF 11 rfl ab rfl rfl;exact br rfl rfl rfl rfl rfl rfl rfl rfl ab rfl);(apply aF 12 rfl ab rfl rfl;exact ai rfl rfl);(refine bh ab ?_;exact aV (Wk.of ⟨rfl,rfl,rfl,rfl,rfl,rfl,rfl,ag⟩ ⟨rfl,rfl,rfl,rfl,rfl,rfl,ag⟩ trivial))));(focus ((apply aF 9 rfl ab rfl rfl;exact aN rfl rfl rfl);(apply aF 12 rfl ab rfl rfl;exact ai rfl rfl);(refine bh ab ?_;exact aV (Wk.of ⟨rfl,rfl,rfl,rfl,rfl,rfl,rfl,ag⟩ ⟨rfl,rfl,rfl,rfl,rfl,rfl,ag⟩ trivial)))))));(focus ((apply aF 8 rfl ab rfl rfl;exact aN rfl rfl rfl);(apply aF 11 rfl ab rfl rfl;exact br rfl rfl rfl rfl rfl rfl rfl rfl ab rfl);(apply aF 12 rfl ab rfl rfl;exact ai rfl rfl);(refine bh ab ?_;exact aV (Wk.of ⟨rfl,rfl,rfl,rfl,rfl,rfl,rfl,ag⟩ ⟨rfl,rfl,rfl,rfl,rfl,rfl,ag⟩ trivial)))))))))
    have hmN:=k1.len
    (refine an (ak (ah (aa rfl (aU rfl rfl rfl rfl rfl rfl ab) ?_)));apply aa rfl;exact br rfl rfl rfl rfl rfl rfl rfl rfl ab rfl;refine ar (an (ak (ah (aa rfl (aj rfl rfl) (aa rfl (ai rfl rfl) (ar (an (ak (ah ?_)))))))));apply aa rfl;(exact aI (d:=2) rfl rfl rfl ab);apply aa rfl;exact aZ rfl ab rfl rfl rfl rfl;refine ar (an ?_))
    by_cases hb':b'=true
    ·subst hb'
     have hx:C=(M',N',true):=by
      rw [←hC];unfold db
      rw [hgl]
      dsimp only
      have e:ic ng (im,less,false,c) (W.map Int.toNat).dropLast=(M',N',true,d'):=by
       have e1:(W.map Int.toNat).dropLast=(W.map Int.toNat).take (j + 1) ++ ((W.map Int.toNat).take (k - 1)).drop (j + 1):=by
        rw [List.dropLast_eq_take,List.length_map,hk]
        conv=>lhs;rw [←List.take_append_drop (j + 1) ((W.map Int.toNat).take (k - 1))]
        rw [List.take_take,show min (j + 1) (k - 1)=j + 1 by omega]
       rw [e1,mO,hgo',ij rfl]
      rw [e]
      rfl
     subst hx
     refine ax rfl (fun _=> ?_) (fun e=>by cases e)
     (refine ak (ah (aa rfl (aU rfl rfl rfl rfl rfl rfl ab) ?_));apply aa rfl;exact br rfl rfl rfl rfl rfl rfl rfl rfl ab rfl;refine ar (an (aS (bt (aO (aO (bt (aO ?_))))))))
     exact bu (.inl rfl) rfl (.cell rfl rfl rfl rfl rfl (by kernel_rfl)) ⟨rfl,rfl,ag⟩ trivial
    ·have hb':b'=false:=by simpa using hb'
     subst hb'
     refine ax rfl (fun e=>by cases e) (fun _=> ?_)
     (refine aE (aM (an (ah (aa rfl (aj rfl rfl) ?_))));apply aa rfl;exact aP rfl rfl rfl bA;refine aa rfl (ai rfl rfl) (ar ?_))
     exact aW (j + 1,(M',N',false,d')) ⟨ae,rfl,hgo',⟨k1,Nat.le_trans hlo k2,k3,k4⟩⟩ (by show k - (j + 1) < k - j;omega) (Wk.of ⟨rfl,rfl,rfl,rfl,rfl,rfl,ag⟩ ⟨rfl,rfl,rfl,rfl,rfl,ag⟩ trivial)
  ·have hlt:¬((j:Int) + 1) < (k:Nat):=hlt
   obtain rfl:k=j + 1:=by omega
   have hgj:=hg (aC W j) (eH ae)
   have hgv:g=(aC W j).toNat:=by
    rw [List.getLast?_eq_getElem?,List.length_map,hk,Nat.add_sub_cancel] at hgl
    simp [cX (show j < W.length by omega),show j < W.length by omega] at hgl ⊢
    exact hgl.symm
   have hgn:g < ng:=by omega
   obtain ⟨z,hz⟩:∃z,aC W j=z:=⟨_,rfl⟩
   rw [hz] at hgj hgv
   have hzg:(g:Int)=z:=by omega
   have gW:(aL W)[j]? =some (I6 g):=by rw [bl ae,hz,hzg]
   have hCx:db ng im less c (W.map Int.toNat)=C:=hC
   unfold db at hCx
   rw [hgl] at hCx
   dsimp only at hCx
   have e:ic ng (im,less,false,c) (W.map Int.toNat).dropLast=(M,N,false,d):=by
    rw [List.dropLast_eq_take,List.length_map,hk];exact hgo
   rw [e] at hCx
   dsimp only at hCx
   rw [if_neg (by simp)] at hCx
   have hcN:c < N.length:=by omega
   have hrc:=hw1.row c ae
   have hrd:=hw1.row d ae
   have hF1:=iM M N N.length N.length d g false hm1 rfl hw1.down ae ae (hw1.bZ d g ae hgn)
   have hF2:=iM M N N.length N.length c g false hm1 rfl hw1.down ae ae (hw1.bZ c g ae hgn)
   have i1:=eL hw1 hd hgn
   have i2:=eL hw1 hcN hgn
   obtain ⟨x,hx⟩:∃x,image M N d g=x:=⟨_,rfl⟩
   obtain ⟨y,hy⟩:∃y,image M N c g=y:=⟨_,rfl⟩
   rw [hx,hy] at hCx
   rw [hx] at hF1 i1
   rw [hy] at hF2 i2
   have hgw:aC W (((j + 1:Nat):Int) - 1).toNat=(g:Int):=by rw [show (((j + 1:Nat):Int) - 1).toNat=j by omega,hz,hzg]
   (refine a7 (aA (aA (aT (an (ak (ah (aa rfl (aj rfl rfl) (aa rfl (aj rfl rfl) (aa rfl (bw rfl rfl rfl ab) ?_)))))))));apply aa rfl;exact cg rfl rfl rfl bA;apply aa rfl;exact bd rfl rfl rfl rfl rfl ab aQ a9 aJ a8;apply aa rfl;exact a5 rfl ab rfl rfl rfl aQ aQ;refine aa rfl (ai rfl rfl) (ar (an (ak ?_))))
   rw [hgw]
   apply eE 8 [] [[], [], [], [0,1,2], [], [], [], [0,1,2,3,4,5,6], [0,1,2,3,4,5,6,7], [0,1,2,3,4,5,6,7,8]] [47,48,49,50,51,52,53,54] [] (by kernel_rfl) (by kernel_rfl)
   ·(apply aK rfl;(intro S1 hS;exact aU rfl (hS.op rfl) (hS.ch _ _ rfl) rfl rfl rfl ab);apply aK rfl;(intro S1 hS;exact aj rfl (hS.op rfl));apply aK rfl;(intro S1 hS;exact aj rfl (hS.op rfl));(apply aK rfl;(focus (intro S1 hS;apply au 155;first | exact aw hF1 ab rfl (eu hS rfl) ⟨⟨.inl rfl, .inl rfl, .inl rfl,ag⟩,rfl,rfl,ag⟩ (dq hS ⟨⟨_,rfl, .inr rfl⟩,⟨_,rfl, .inr rfl⟩,ag⟩) rfl rfl | exact aw hF2 ab rfl (eu hS rfl) ⟨⟨.inl rfl, .inl rfl, .inl rfl,ag⟩,rfl,rfl,ag⟩ (dq hS ⟨⟨_,rfl, .inr rfl⟩,⟨_,rfl, .inr rfl⟩,ag⟩) rfl rfl)));apply aK rfl;(intro S1 hS;exact aU rfl (hS.op rfl) (hS.ch _ _ rfl) rfl rfl rfl ab);apply aK rfl;(intro S1 hS;exact aj rfl (hS.op rfl));apply aK rfl;(intro S1 hS;exact aj rfl (hS.op rfl));(apply aK rfl;(focus (intro S1 hS;apply au 155;first | exact aw hF1 ab rfl (eu hS rfl) ⟨⟨.inl rfl, .inl rfl, .inl rfl,ag⟩,rfl,rfl,ag⟩ (dq hS ⟨⟨_,rfl, .inr rfl⟩,⟨_,rfl, .inr rfl⟩,ag⟩) rfl rfl | exact aw hF2 ab rfl (eu hS rfl) ⟨⟨.inl rfl, .inl rfl, .inl rfl,ag⟩,rfl,rfl,ag⟩ (dq hS ⟨⟨_,rfl, .inr rfl⟩,⟨_,rfl, .inr rfl⟩,ag⟩) rfl rfl)));exact ft.nil)
   ·rfl
   ((apply aF 8 rfl ab rfl rfl;exact ai rfl rfl);(apply aF 9 rfl ab rfl rfl;exact ai rfl rfl);(refine bh ab ?_;skip))
   (refine an (ak (aB (ak (ah (aa rfl (aj rfl rfl) (aa rfl (aG rfl rfl rfl rfl) (aa rfl (ai rfl rfl) (ar (an ?_))))))))))
   refine bK rfl (fun hx0=> ?_) (fun hx0=> ?_)
   ·have hx0:0≤x:=hx0
    rw [if_pos hx0] at hCx
    have hI:=mq ng N.length M N x.toNat c false rfl hw1 ae hcN hhi hng
    rw [Int.toNat_of_nonneg hx0] at hI
    subst hCx
    have hln:=(iI (q:= [(x,(c:Int))]) hw1 rfl (fun p hp=>by simp at hp;subst hp;exact ⟨⟨hx0,i1⟩,ae,by dsimp only;omega⟩)).2
    dsimp only
    rw [hln]
    (refine ak (ah (aa rfl (aU rfl rfl rfl rfl rfl rfl ab) ?_));refine aa rfl (aj rfl rfl) (aa rfl (aj rfl rfl) ?_);apply aa rfl;(apply au 186;exact dc [] hI ab rfl rfl ⟨⟨.inl rfl, .inl rfl, .inl rfl,ag⟩,rfl,rfl,ag⟩ ⟨⟨_,rfl, .inl rfl⟩,⟨_,rfl, .inl rfl⟩,ag⟩ trivial rfl rfl);apply aa rfl;exact br rfl rfl rfl rfl rfl rfl rfl rfl ab rfl;refine ar (an (aS (bt (aO ?_)))))
    exact bu (.inl rfl) rfl (.cell rfl rfl rfl rfl rfl (by kernel_rfl)) ⟨rfl,rfl,ag⟩ trivial
   ·have hx0:¬0≤x:=hx0
    rw [if_neg hx0] at hCx
    (refine ak (ah (aa rfl (aj rfl rfl) (aa rfl (aG rfl rfl rfl rfl) (aa rfl (ai rfl rfl) (ar (an ?_)))))))
    refine bK rfl (fun hy0=> ?_) (fun hy0=> ?_)
    ·have hy0:0≤y:=hy0
     rw [if_pos hy0] at hCx
     have hI:=mq ng N.length M N y.toNat d false rfl hw1 ae hd hhi hng
     rw [Int.toNat_of_nonneg hy0] at hI
     subst hCx
     have hln:=(iI (q:= [(y,(d:Int))]) hw1 rfl (fun p hp=>by simp at hp;subst hp;exact ⟨⟨hy0,i2⟩,ae,by dsimp only;omega⟩)).2
     dsimp only
     rw [hln]
     (refine ak (ah (aa rfl (aU rfl rfl rfl rfl rfl rfl ab) ?_));refine aa rfl (aj rfl rfl) (aa rfl (aj rfl rfl) ?_);apply aa rfl;(apply au 186;exact dc [] hI ab rfl rfl ⟨⟨.inl rfl, .inl rfl, .inl rfl,ag⟩,rfl,rfl,ag⟩ ⟨⟨_,rfl, .inl rfl⟩,⟨_,rfl, .inl rfl⟩,ag⟩ trivial rfl rfl);apply aa rfl;exact br rfl rfl rfl rfl rfl rfl rfl rfl ab rfl;refine ar (an (aS (bt (aO ?_)))))
     exact bu (.inl rfl) rfl (.cell rfl rfl rfl rfl rfl (by kernel_rfl)) ⟨rfl,rfl,ag⟩ trivial
    ·have hy0:¬0≤y:=hy0
     rw [if_neg hy0] at hCx
     subst hCx
     dsimp only
     have hr2:(bn (eh M d g c) c).length=ng:=by rw [iG];exact hrc
     have hl2:(eh M d g c).length=N.length:=by rw [dB];exact hm1
     (refine aE (aM (an (ak (ah ?_))));apply aa rfl;(exact aI (d:=0) rfl rfl rfl ab);apply aa rfl;exact aZ rfl ab rfl rfl rfl rfl;apply aa rfl;exact aj rfl rfl;apply aa rfl;exact aR rfl rfl rfl rfl rfl ab a9 aJ a8;apply aa rfl;exact bF rfl ab rfl rfl rfl aQ c8;refine aa rfl (aj rfl rfl) (aa rfl (aj rfl rfl) ?_);apply aa rfl;exact bd rfl rfl rfl rfl rfl ab aQ a9 aJ a8;apply aa rfl;exact cz rfl rfl rfl rfl rfl aJ aJ ab;refine ar (an (ak (ah ?_)));apply aa rfl;(exact aI (d:=0) rfl rfl rfl ab);apply aa rfl;exact aZ rfl ab rfl rfl rfl rfl;apply aa rfl;exact aj rfl rfl;apply aa rfl;exact aR rfl rfl rfl rfl rfl ab a9 aJ a8;apply aa rfl;exact bF rfl ab rfl rfl rfl aQ c8;refine aa rfl (aj rfl rfl) (aa rfl (aj rfl rfl) ?_);apply aa rfl;exact bd rfl rfl rfl rfl rfl ab aQ a9 aJ a8;apply aa rfl;exact cz rfl rfl rfl rfl rfl aJ aJ ab;refine ar (an (ak (ah (aa rfl (aU rfl rfl rfl rfl rfl rfl ab) ?_))));apply aa rfl;exact br rfl rfl rfl rfl rfl rfl rfl rfl ab rfl;refine ar (an (aS ?_)))
     exact bu (.inl rfl) rfl (.cell rfl rfl rfl rfl rfl (by kernel_rfl)) ⟨rfl,rfl,ag⟩ trivial
end Go.Proofs.YtekbhbcgoadciaaGreat
namespace Go.Proofs.YtekbhbcgoadciaaGreat
open Go.RowKit
section
variable {P:Program} {nt:Nat} {S S1 S':St} {w0 w:World} {ω0:ml} {ω:bY} {η:Env} {a:Act} {Q:Exit→Act→World→Prop} {ops:Array Oper} {rest:List Oper} {o:Oper}
variable {t:Nat} {ty:TypeId} {ps:String} {af:Array Edge} {gd:Option (Nat×Bool)} {x y z:Operand} {av:AV}
theorem bS (d:Nat) {b:Bool} (hb:S.sl d=some (vv (.bool b))) (h1:b=true→qQ P w0 ω0 nt ops Q (S.put d (vv (.bool true))) rest) (h2:b=false→qQ P w0 ω0 nt ops Q (S.put d (vv (.bool false))) rest):qQ P w0 ω0 nt ops Q S rest:=by
 have wk:∀c,b=c→Wk S (S.put d (vv (.bool c))):=fun c e=>by
  refine ⟨fun w0 ω0 nt a w ⟨η,ω,hs⟩=>⟨η,ω, { hs with slots:=fun t' av ht'=> ?_ }⟩⟩
  rw [iW] at ht'
  by_cases e':t'=d
  ·subst e'
   rw [if_pos rfl] at ht'
   obtain rfl:=Option.some.inj ht'
   exact hs.slots t' _ (by rw [←e];exact hb)
  ·rw [if_neg e'] at ht';exact hs.slots t' av ht'
 cases b with
 | true=>exact ⟨fun a w hs=>(h1 rfl).go a w ((wk true rfl).go _ _ _ a w hs)⟩
 | false=>exact ⟨fun a w hs=>(h2 rfl).go a w ((wk false rfl).go _ _ _ a w hs)⟩
theorem aH {j d:Nat} {want:Bool} (hg:o.guard=some (j,want)) (hj:(ops[j]?).bind (·.dst)=some d) (hb:S.sl d=some (vv (.bool want))) (h:cu P nt o S S1) (k:qQ P w0 ω0 nt ops Q S1 rest):qQ P w0 ω0 nt ops Q S (o :: rest):=
 ui hg hj hb (fun _=>⟨S1,h,k⟩) fun e=>absurd rfl e
theorem aD {j d t:Nat} {want:Bool} (hg:o.guard=some (j,want)) (hj:(ops[j]?).bind (·.dst)=some d) (hb:S.sl d=some (vv (.bool (!want)))) (ht:o.dst=some t) (hn:Nat.blt t nt=true) (k:qQ P w0 ω0 nt ops Q (S.put t (vv undef)) rest):qQ P w0 ω0 nt ops Q S (o :: rest):=
 ui hg hj hb (fun e=>by cases want<;>cases e) fun _=>⟨t,ht,hn,k⟩
theorem bp (ht:Nat.blt t nt=true) (hx:S.op x=some (vv (.bool true))) (hy:S.op y=some av):cu P nt ⟨some t, .pick x y z,ty,ps,af,gd⟩ S (S.put t av):=
 cu.of _ fun w0 ω0 η ω a w hs=>by
  have h0:=hs.gQ hx
  exact ⟨a.eval y,w,by simp [execOp,h0,asBool],η,ω,hs.fU (by simpa using ht) (hs.iE hy)⟩
theorem bD (ht:Nat.blt t nt=true) (hx:S.op x=some (vv (.bool false))) (hz:S.op z=some av):cu P nt ⟨some t, .pick x y z,ty,ps,af,gd⟩ S (S.put t av):=
 cu.of _ fun w0 ω0 η ω a w hs=>by
  have h0:=hs.gQ hx
  exact ⟨a.eval z,w,by simp [execOp,h0,asBool],η,ω,hs.fU (by simpa using ht) (hs.iE hz)⟩
theorem Ak {T:TypeId} (zs:List Value) (ht:Nat.blt t nt=true) (hb:(P.built T []).map Array.toList=some zs):cu P nt ⟨some t, .build T #[],ty,ps,af,gd⟩ S (S.put t (.s (.agg (zs.map .val)))):=
 cu.of _ fun w0 ω0 η ω a w hs=>by
  simp only [Option.map_eq_some_iff] at hb
  obtain ⟨cs,hc,rfl⟩:=hb
  refine ⟨.agg cs,w,by simp [execOp,run_build w T #[] cs hc],η,ω,hs.fU (by simpa using ht) ?_⟩
  exact (⟨cs,rfl,by simp,fun j b hb=>by
   simp only [List.getElem?_map,Option.map_eq_some_iff] at hb
   obtain ⟨v,hv,rfl⟩:=hb
   exact ⟨v,by simpa using hv,rfl⟩⟩:gj η (.agg (cs.toList.map .val)) (.agg cs))
theorem cW {c:Code} (S':St) (h:fJ P w0 ω0 nt S c (fun e a w=>e= .normal∧Sat w0 ω0 nt S' a w)) (k:Fin w0 ω0 nt S' .normal Q):fJ P w0 ω0 nt S c Q:=
 ⟨fun a w hs=>Code.wp_mono (fun e a w he=>by obtain ⟨rfl,h2⟩:=he;exact k.go a w h2) (h.go a w hs)⟩
theorem Aw (h:Wk S S') (k:qQ P w0 ω0 nt ops Q S' rest):qQ P w0 ω0 nt ops Q S rest:=⟨fun a w hs=>k.go a w (h.go _ _ _ a w hs)⟩
theorem Bl {n k:Nat} {E:TypeId} {d:eQ} {l:List A1} (i:Nat) (hs:S.sl t=some (.s (.agg l))) (hi:l[i]? =some (.val (.slice none 0 0))) (hn:l.any (A1.has n)=false) (hd:d.len=0):Wk S ((S.new n ⟨true,E,k,d⟩).put t (.s (.agg (l.set i (.sl n 0 0))))):=by
 refine ⟨fun w0 ω0 nt a w ⟨η,ω,h⟩=> ?_⟩
 obtain ⟨u,h1,h2⟩:=h.slots t _ hs
 obtain ⟨us,rfl,h3,h4⟩:=(h2:gj η (.agg l) u)
 have hl:=h.lay (x:=n) (c:=⟨true,E,k,d⟩) (hd:=⟨none,0,k⟩) (r:=fun _=>⟨none,0,1⟩) (Calm.refl S ω w) ⟨rfl, .inl ⟨rfl,rfl,hd⟩⟩
 refine ⟨_,ω, { hl with slots:=fun t' av ht'=> ?_ }⟩
 rw [iW] at ht'
 by_cases e:t'=t
 ·subst e
  rw [if_pos rfl] at ht'
  obtain rfl:=Option.some.inj ht'
  refine ⟨_,h1,us,rfl,by simpa using h3,fun j b hb=> ?_⟩
  by_cases ej:j=i
  ·subst ej
   obtain ⟨u',h5,h6⟩:=h4 j _ hi
   have h6:u'= .slice none 0 0:=h6
   subst h6
   have hlt:j < l.length:=(List.getElem?_eq_some_iff.1 hi).1
   rw [List.getElem?_set_self hlt] at hb
   obtain rfl:=Option.some.inj hb
   exact ⟨_,h5,mH (hd:=⟨none,0,k⟩) (m:=0)⟩
  ·rw [List.getElem?_set_ne (fun e=>ej e.symm)] at hb
   obtain ⟨u',h5,h6⟩:=h4 j b hb
   refine ⟨u',h5,h6.mono fun y hy=>Env.new_ne η _ _ y fun e=> ?_⟩
   subst e
   have:=List.any_eq_false.1 hn b (List.mem_of_getElem? hb)
   rw [hy] at this;exact this rfl
 ·rw [if_neg e] at ht'
  exact hl.slots t' av ht'
end
end Go.Proofs.YtekbhbcgoadciaaGreat
