/- Forms of maniplexes and isomorphisms, plain. -/
import Derived.Test.YtfpcfckocmmcnaaPart9
import Derived.Test.YtfpcfckocmmcnaaPart4
import Derived.Test.YtfpcfckocmmcnaaPart7
import Derived.Test.YtfpcfckocmmcnaaPart5
import Derived.Lib.AppendZeros
import Derived.Test.YtfpcfckocmmcnaaPart1
import Derived.Deep.AppendLies
set_option maxRecDepth 100000
set_option maxHeartbeats 6400000
namespace Go.Proofs.Ytfpcfckocmmcnaa
theorem yx {d:List (List Int)} {N:Nat} (h1:1≤d.length) (h5:d.length≤5) (hN2:2≤N) (hN4:N≤400) (hT:dh d N) (hB:mC d N) (hF:∀g,g < d.length→∀x,x < N→dy d x g≠x) (hC:∀i k,i + 2≤k→k < d.length→∀x,x < N→fu d i k x)
  (hconn:∀p:Nat→Prop,p 0→(∀x,x < N→p x→∀g,g < d.length→p (dy d x g))→∀x,x < N→p x):dW d:=by
 have h0:(aT d 0).length=N:=hT.len 0 ab
 have hto:∀g,g < d.length→∀x,x < N→aD (aT d g) x=(dy d x g:Int)∧dy d x g < N:=fun g hg x hx=>⟨(dj hT hx hg).2,(dj hT hx hg).1⟩
 refine ⟨h1,h5,ab,ab,fun i hi=>by rw [hT.len i hi,h0],fun i hi=> ?_,fun i hi=> ?_,fun i k hik hk f hf=>hC i k hik hk f ab, ?_⟩
 ·have hl:=hT.len i hi
  refine AF ab (fun k hk=> ?_) fun a b ha hb e=> ?_
  ·have:=hto i hi k ab;omega
  ·have ea:=hto i hi a ab
   have eb:=hto i hi b ab
   have e2:dy d a i=dy d b i:=by rw [ea.1,eb.1] at e;omega
   rw [←hB i hi a ab,←hB i hi b ab,e2]
 ·have hl:=hT.len i hi
  refine lZ fun x hx=> ?_
  have ex:=hto i hi x ab
  have eb:=hB i hi x ab
  have ef:=hF i hi x ab
  rw [ex.1,Int.toNat_natCast]
  refine ⟨ab, ?_⟩
  rw [(hto i hi _ ex.2).1,eb]
 ·rw [h0]
  refine (lW hT ab).2 (hconn (fun x=>mW d N 0 x=true) (gJ hT ab) fun x hx h g hg=>pc hT ab hx h hg)
theorem nK {d:List (List Int)} (h:dW d) {g x:Nat} (hg:g < d.length) (hx:x < cn d):dy d x g≠x:=by
 have hT:=bM h
 have:=(na (h.free g hg) (i:=x) (by rw [hT.len g hg];exact hx)).1
 rw [(dj hT hx hg).2] at this
 omega
theorem xG {d:List (List Int)} (h:dW d) {i k x:Nat} (hik:i + 2≤k) (hk:k < d.length) (hx:x < cn d):fu d i k x:=h.comm i k hik hk x hx
theorem ik {d:List (List Int)} {g x:Nat} (hg:g < d.length):dy d.reverse x g=dy d x (d.length - 1 - g):=by unfold dy;rw [lY hg]
theorem EE {d:List (List Int)} (h:dW d):cn d.reverse=cn d:=by
 unfold cn
 have h1:=h.n1
 rw [lY ab]
 exact h.len _ ab
theorem zZ {d:List (List Int)} (h:dW d):dW d.reverse:=by
 have h1:=h.n1
 have hT:=bM h
 have hb:=ke h
 have hT':dh d.reverse (cn d):=⟨fun k hk=>by rw [List.length_reverse] at hk;rw [lY hk];exact hT.len _ ab,fun k hk x hx=>by rw [List.length_reverse] at hk;rw [lY hk];exact hT.within _ ab x hx⟩
 refine yx (N:=cn d) (by simpa using h1) (by simpa using h.n5) h.f2 h.f4 hT' (fun g hg c hc=> ?_) (fun g hg x hx=> ?_) (fun i k hik hk x hx=> ?_) fun p p0 hp=> ?_
 ·rw [List.length_reverse] at hg
  rw [ik hg,ik hg]
  exact hb _ ab c hc
 ·rw [List.length_reverse] at hg
  rw [ik hg]
  exact nK h ab hx
 ·rw [List.length_reverse] at hk
  have:=xG h (i:=d.length - 1 - k) (k:=d.length - 1 - i) (x:=x) ab ab hx
  unfold fu at this ⊢
  have ri:∀y,dy d.reverse y i=dy d y (d.length - 1 - i):=fun y=>ik ab
  have rk:∀y,dy d.reverse y k=dy d y (d.length - 1 - k):=fun y=>ik hk
  rw [ri x,rk,rk x,ri]
  exact ⟨this.1.symm,fun e=>this.2 e.symm⟩
 ·refine vj h p0 fun i hi hpi g hg=> ?_
  have:=hp i hi hpi (d.length - 1 - g) (by simp;omega)
  rw [ik ab] at this
  rwa [show d.length - 1 - (d.length - 1 - g)=g by omega] at this
theorem fL {d:List (List Int)} (hM:dW d) {f:Nat} (hf:f < cn d) {i:Nat} (hi:i < cn d):fP d f i < cn d∧aD (lx d (cn d) f).2 i=(fP d f i:Int):=by
 obtain ⟨x,h1,h2⟩:=Ah hM hf hi
 unfold fP
 rw [h1];exact ⟨ab,ab⟩
theorem mo {d:List (List Int)} (hM:dW d) {f:Nat} (hf:f < cn d) {y:Nat} (hy:y < cn d):∃i,i < cn d∧fP d f i=y:=by
 have hr:mW d (cn d) f y=true:=ie (bM hM) hf ab hy (l7 (bM hM) (ke hM) ab hf (iW hM f hf)) (iW hM y hy)
 obtain ⟨k,h1,h2⟩:=(lA (bM hM) hf).cov y hy hr
 exact ⟨k,by rw [kq hM hf] at h1;exact h1,by unfold fP;rw [h2];omega⟩
theorem kg {d:List (List Int)} (hM:dW d) {f:Nat} (hf:f < cn d) {i j:Nat} (hi:i < cn d) (hj:j < cn d) (e:fP d f i=fP d f j):i=j:=
 xd (fun _ h=>(fL hM hf h).1) (fun _ h=>mo hM hf h) hi hj e
theorem BE {d:List (List Int)} (hM:dW d) {f:Nat} (hf:f < cn d):fP d f 0=f:=by
 have:=(nu (mask:=2 ^ d.length - 1) (bM hM) rfl (cn d + 1) 0 _ (fK hf)).2.pre 0 (by simp [ey])
 have e:aD (lx d (cn d) f).2 0=(f:Int):=by unfold lx;rw [this];rfl
 unfold fP
 rw [e];omega
theorem xC {d:List (List Int)} (hM:dW d) {f:Nat} (hf:f < cn d) {i:Nat} (hi:i < cn d):aD (zy d f) (fP d f i)=(i:Int):=
 rA (N:=cn d) (g:=fun i=>fP d f i) (v:=fun i=>(i:Int)) (M:=cn d) (fun i h=>(fL hM hf h).1) (fun i j h k e=>kg hM hf h k e) (cn d) (Nat.le_refl _) i hi
theorem Et {d:List (List Int)} {f g i:Nat} (hg:g < d.length) (hi:i < cn d):aD (aT (eA d f) g) i=aD (zy d f) (dy d (fP d f i) g):=by
 rw [uV hg,cA (by rw [nb];exact hi)]
 simp [ig]
theorem j4 {d:List (List Int)} (hM:dW d) {f g i:Nat} (hf:f < cn d) (hg:g < d.length) (hi:i < cn d):dy (eA d f) i g < cn d∧aD (aT (eA d f) g) i=(dy (eA d f) i g:Int)∧fP d f (dy (eA d f) i g)=dy d (fP d f i) g:=by
 have h1:=dj (bM hM) (fL hM hf hi).1 hg
 obtain ⟨k,hk,hke⟩:=mo hM hf h1.1
 have h2:=Et (d:=d) (f:=f) hg hi
 rw [←hke,xC hM hf hk] at h2
 have h3:dy (eA d f) i g=k:=by unfold dy;rw [h2];omega
 rw [h3]
 exact ⟨hk,h2,hke⟩
theorem vm {d:List (List Int)} (hM:dW d) {f:Nat} :cn (eA d f)=cn d:=by
 unfold cn
 rw [uV (by have:=hM.n1;omega),nb];rfl
theorem DP {d:List (List Int)} (hM:dW d) {f:Nat} (hf:f < cn d):dW (eA d f):=by
 have hl:=qi d f
 have h1:=hM.n1
 have h2:=hM.f2
 refine yx (N:=cn d) ab (by have:=hM.n5;omega) hM.f2 hM.f4 ⟨fun k hk=> ?_,fun k hk x hx=> ?_⟩ (fun g hg c hc=> ?_) (fun g hg x hx=> ?_) (fun i k hik hk x hx=> ?_) fun p p0 hp=> ?_
 ·rw [hl] at hk
  rw [uV hk,nb]
 ·rw [hl] at hk
  have:=j4 hM hf hk hx
  omega
 ·rw [hl] at hg
  obtain ⟨a1,a2,a3⟩:=j4 hM hf hg hc
  obtain ⟨b1,b2,b3⟩:=j4 hM hf hg a1
  refine kg hM hf b1 hc ?_
  rw [b3,a3]
  exact ke hM g hg _ (fL hM hf hc).1
 ·rw [hl] at hg
  intro e
  obtain ⟨a1,a2,a3⟩:=j4 hM hf hg hx
  rw [e] at a3
  exact nK hM hg (fL hM hf hx).1 a3.symm
 ·rw [hl] at hk
  obtain ⟨a1,a2,a3⟩:=j4 hM hf (g:=i) ab hx
  obtain ⟨b1,b2,b3⟩:=j4 hM hf hk hx
  obtain ⟨c1,c2,c3⟩:=j4 hM hf hk a1
  obtain ⟨e1,e2,e3⟩:=j4 hM hf (g:=i) ab b1
  have hc:=xG hM hik hk (fL hM hf hx).1
  refine ⟨kg hM hf c1 e1 ?_,fun e=>hc.2 ?_⟩
  ·rw [c3,a3,e3,b3];exact hc.1
  ·rw [←a3,←b3,e]
 ·have key:∀y,y < cn d→∀i,i < cn d→fP d f i=y→p i:=by
   have h0:=BE hM hf
   have base:∀i,i < cn d→fP d f i=f→p i:=fun i hi e=>by
    rw [kg hM hf hi (j:=0) (by unfold cn;omega) (by rw [e,h0])];exact p0
   refine fun y hy=>m6 (bM hM) hf (p:=fun y=>∀i,i < cn d→fP d f i=y→p i) base (fun z hz hpz g hg i hi e=> ?_) y hy (ie (bM hM) hf ab hy (l7 (bM hM) (ke hM) ab hf (iW hM f hf)) (iW hM y hy))
   obtain ⟨j,hj,hje⟩:=mo hM hf hz
   obtain ⟨a1,a2,a3⟩:=j4 hM hf hg hj
   have:=hp j hj (hpz j hj hje) g (by rw [hl];exact hg)
   rw [hje] at a3
   rw [kg hM hf hi a1 (by rw [a3,e])]
   exact this
  exact fun x hx=>key _ (fL hM hf hx).1 x hx rfl
end Go.Proofs.Ytfpcfckocmmcnaa
namespace Go.Proofs.Ytfpcfckocmmcnaa
theorem zW {m n:Nat} {f:Nat→Nat} (h:∀i,i < n→f i < m) (hi:∀i j,i < n→j < n→f i=f j→i=j):n≤m:=by
 have:=oR ((List.range n).map f) (List.range m) (oT List.nodup_range fun x hx y hy=>hi x y (List.mem_range.1 hx) (List.mem_range.1 hy)) fun z hz=>by
  obtain ⟨x,hx,rfl⟩:=List.mem_map.1 hz
  exact List.mem_range.2 (h x (List.mem_range.1 hx))
 simpa using this
structure sR (d e:List (List Int)) (N:Nat) (p:Nat→Nat):Prop where
 len:d.length=e.length
 lds:dh e N
 lt:∀x,x < cn d→p x < N
 inj:∀x y,x < cn d→y < cn d→p x=p y→x=y
 mov:∀g x,g < d.length→x < cn d→p (dy d x g)=dy e (p x) g
def mu (e:List (List Int)) (N f i:Nat):Nat:=(aD (lx e N f).2 i).toNat
def AG (e:List (List Int)) (N f:Nat):List Int:=ln N (fun i=>mu e N f i) (fun i=>(i:Int)) (lx e N f).2.length
def kO (e:List (List Int)) (N f g k:Nat):List Int:=(List.range k).map fun i=>aD (AG e N f) (dy e (mu e N f i) g)
def iM (e:List (List Int)) (N f:Nat):List (List Int):=(List.range e.length).map fun g=>kO e N f g (lx e N f).2.length
theorem wO (e:List (List Int)) (N f g k:Nat):kO e N f g (k + 1)=kO e N f g k ++ [aD (AG e N f) (dy e (mu e N f k) g)]:=by simp [kO,List.range_succ]
theorem BY {e:List (List Int)} {N f g:Nat} (h:g < e.length):(iM e N f).take (g + 1)=(iM e N f).take g ++ [kO e N f g (lx e N f).2.length]:=by
 rw [List.take_succ_eq_append_getElem (by simpa [iM] using h)]
 congr 1
 simp [iM]
section
variable {d e:List (List Int)} {N:Nat} {p:Nat→Nat}
def Ha (d:List (List Int)) (p:Nat→Nat) (s s':lv):Prop:=s'.2=s.2.map (fun z=>(p z.toNat:Int))∧∀x,x < cn d→jY s'.1 (p x)=jY s.1 x
theorem Cv (h:sR d e N p) (hd:dW d) {s s':lv} (hs:sP (cn d) s) (hs':sP N s') (m:Ha d p s s') {mask c g:Nat} (hc:c < cn d) (hg:g < d.length):Ha d p (dX d mask c s g) (dX e mask (p c) s' g):=by
 have ht:=(dj (bM hd) hc hg).1
 have hm:=h.mov g c hg hc
 unfold dX
 rw [←hm,m.2 _ ht]
 split
 ·refine ⟨by simp [m.1],fun x hx=> ?_⟩
  rw [iS,iS,hs.l,hs'.l]
  have:=h.lt _ ht
  by_cases q:dy d c g=x
  ·subst q
   rw [if_pos ⟨rfl,this⟩,if_pos ⟨rfl,ht⟩]
  ·rw [if_neg (fun k=>q (h.inj _ _ ht hx k.1)),if_neg (fun k=>q k.1)]
   exact m.2 x hx
 ·exact m
theorem Ae (h:sR d e N p) (hd:dW d) {mask c:Nat} (hc:c < cn d) {s s':lv} (hs:sP (cn d) s) (hs':sP N s') (m:Ha d p s s'):∀k,k≤d.length→Ha d p ((List.range k).foldl (dX d mask c) s) ((List.range k).foldl (dX e mask (p c)) s')
 | 0,_=>m
 | k + 1,hk=>by
  rw [List.range_succ,List.foldl_append,List.foldl_append]
  exact Cv h hd (iu (bM hd) rfl hc hs k ab).1 (iu h.lds rfl (h.lt c hc) hs' k (by rw [←h.len];omega)).1 (Ae h hd hc hs hs' m k ab) hc ab
theorem wP (h:sR d e N p) (hd:dW d) {mask:Nat} :∀(f f' i:Nat) (s s':lv),sP (cn d) s→sP N s'→Ha d p s s'→cn d + 1≤f + i→f≤f'→i≤s.2.length→Ha d p (dU d mask d.length f i s) (dU e mask d.length f' i s')
 | 0,_,_,_,_,hs,_,_,h1,_,h3=>by have:=hs.le;omega
 | _ + 1,0,_,_,_,_,_,_,_,h2,_=>by omega
 | f + 1,f' + 1,i,s,s',hs,hs',m,h1,h2,h3=>by
  have hl:s'.2.length=s.2.length:=by rw [m.1,List.length_map]
  unfold dU
  rw [hl]
  split
  ·rename_i hi
   obtain ⟨x,k1,k2, -⟩:=hs.q i hi
   have e1:aD s'.2 i=(p x:Int):=by
    rw [m.1,cA (by simpa using hi),List.getElem_map,←cA hi,k1];rfl
   rw [k1,e1,Int.toNat_natCast,Int.toNat_natCast]
   obtain ⟨a1,a2, -⟩:=iu (mask:=mask) (bM hd) rfl k2 hs d.length (Nat.le_refl _)
   have a2:=a2.len
   exact wP h hd f f' (i + 1) _ _ a1 (by have:=(iu (mask:=mask) h.lds rfl (h.lt x k2) hs' e.length (Nat.le_refl _)).1;unfold uJ;rw [h.len];exact this) (Ae h hd k2 hs hs' m d.length (Nat.le_refl _)) ab ab (by unfold uJ;omega)
  ·exact m
theorem Gw (h:sR d e N p):cn d≤N:=zW h.lt h.inj
theorem zO (h:sR d e N p) (hd:dW d) {f:Nat} (hf:f < cn d):(lx e N (p f)).2=(lx d (cn d) f).2.map fun z=>(p z.toNat:Int):=by
 unfold lx
 rw [←h.len]
 have hle:=Gw h
 refine (wP h hd _ _ _ _ _ (fK hf) (fK (h.lt f hf)) ⟨by simp [ey],fun x hx=> ?_⟩ ab ab (Nat.zero_le _)).1
 have k1:=ia (n:=N) (c:=p f) (h.lt x hx)
 have k2:=ia (n:=cn d) (c:=f) hx
 cases q:jY (ey (cn d) f).1 x with
 | true=>rw [k1,k2.1 q]
 | false=>
  cases q2:jY (ey N (p f)).1 (p x) with
  | false=>rfl
  | true=>
   have:=h.inj _ _ hx hf (k1.1 q2)
   rw [k2.2 this] at q;cases q
theorem we (h:sR d e N p) (hd:dW d) {f:Nat} (hf:f < cn d):(lx e N (p f)).2.length=cn d:=by
 rw [zO h hd hf,List.length_map,kq hd hf]
theorem oi (h:sR d e N p) (hd:dW d) {f i:Nat} (hf:f < cn d) (hi:i < cn d):mu e N (p f) i=p (fP d f i):=by
 obtain ⟨h1,h2⟩:=fL hd hf hi
 have hl:=kq hd hf
 unfold fP at h1 h2 ⊢
 unfold mu
 rw [zO h hd hf,cA (by rw [List.length_map,hl];exact hi),List.getElem_map,←cA (by rw [hl];exact hi)]
 rfl
theorem EO (h:sR d e N p) (hd:dW d) {f x:Nat} (hf:f < cn d) (hx:x < cn d):aD (AG e N (p f)) (p x)=aD (zy d f) x:=by
 obtain ⟨i,hi,rfl⟩:=mo hd hf hx
 rw [xC hd hf hi,←oi h hd hf hi]
 unfold AG
 rw [we h hd hf]
 exact rA (N:=N) (g:=fun i=>mu e N (p f) i) (v:=fun i=>(i:Int)) (M:=cn d) (fun i hi=>by rw [oi h hd hf hi];exact h.lt _ (fL hd hf hi).1) (fun i j hi hj q=>by
  rw [oi h hd hf hi,oi h hd hf hj] at q
  exact kg hd hf hi hj (h.inj _ _ (fL hd hf hi).1 (fL hd hf hj).1 q)) (cn d) (Nat.le_refl _) i hi
theorem Ax (h:sR d e N p) (hd:dW d) {f:Nat} (hf:f < cn d):iM e N (p f)=eA d f:=by
 unfold iM eA
 rw [←h.len,we h hd hf]
 refine List.map_congr_left fun g hg=> ?_
 rw [List.mem_range] at hg
 unfold kO ig
 refine List.map_congr_left fun i hi=> ?_
 rw [List.mem_range] at hi
 have h1:=(fL hd hf hi).1
 rw [oi h hd hf hi,←h.mov g _ hg h1,EO h hd hf (dj (bM hd) h1 hg).1]
theorem ES {M:Nat} (h1:1≤d.length) (h5:d.length≤5) (hM:0 < M) (hT:dh d M) (hB:mC d M) (hl:d.length=e.length) (hN:N≤400) (hlt:∀x,x < M→p x < N) (hinj:∀x y,x < M→y < M→p x=p y→x=y) (hmov:∀g x,g < d.length→x < M→p (dy d x g)=dy e (p x) g)
  (hF:∀g,g < e.length→∀x,x < N→dy e x g≠x) (hC:∀i k,i + 2≤k→k < e.length→∀x,x < N→fu e i k x)
  (hconn:∀q:Nat→Prop,q 0→(∀x,x < M→q x→∀g,g < d.length→q (dy d x g))→∀x,x < M→q x):dW d∧cn d=M:=by
 have hf:cn d=M:=hT.len 0 ab
 have hto:∀g,g < d.length→∀x,x < M→dy d x g < M:=fun g hg x hx=>(dj hT hx hg).1
 have hfree:∀g,g < d.length→∀x,x < M→dy d x g≠x:=fun g hg x hx q=>by
  have:=hmov g x hg hx
  rw [q] at this
  exact hF g ab (p x) (hlt x hx) this.symm
 have hle:M≤N:=zW hlt hinj
 refine ⟨yx h1 h5 ?_ ab hT hB hfree (fun i k hik hk x hx=> ?_) hconn,hf⟩
 ·have a:=hto 0 ab 0 hM
  have b:=hfree 0 ab 0 hM
  omega
 ·have c:=hC i k hik ab (p x) (hlt x hx)
  unfold fu at c ⊢
  have ai:=hto i ab x hx
  have ak:=hto k hk x hx
  refine ⟨hinj _ _ (hto k hk _ ai) (hto i ab _ ak) ?_,fun q=>c.2 ?_⟩
  ·rw [hmov k _ hk ai,hmov i x ab hx,hmov i _ ab ak,hmov k x hk hx];exact c.1
  ·rw [←hmov i x ab hx,←hmov k x hk hx,q]
end
end Go.Proofs.Ytfpcfckocmmcnaa
namespace Go.Proofs.Ytfpcfckocmmcnaa
structure Fz (zs zs':List Int) (σ:Nat→Nat):Prop where
 len:zs'.length=zs.length
 lt:∀g,g < zs.length + 1→σ g < zs.length + 1
 inv:∀g,g < zs.length + 1→σ (σ g)=g
 lb:∀i j,i < zs.length + 1→j < zs.length + 1→oE zs' i j=oE zs (σ i) (σ j)
theorem yn (zs:List Int):Fz zs zs id:=⟨rfl,fun _ h=>h,fun _ _=>rfl,fun _ _ _ _=>rfl⟩
theorem Fz.symm {zs zs':List Int} {σ:Nat→Nat} (t:Fz zs zs' σ):Fz zs' zs σ:=
 ⟨t.len.symm,fun g h=>by rw [t.len] at h ⊢;exact t.lt g h,fun g h=>by rw [t.len] at h;exact t.inv g h,fun i j hi hj=>by
  rw [t.len] at hi hj
  rw [t.lb _ _ (t.lt i hi) (t.lt j hj),t.inv i hi,t.inv j hj]⟩
theorem xh {zs:List Int} {i:Nat} (h:i < zs.length):aD zs.reverse i=aD zs (zs.length - 1 - i):=by
 rw [cA (by simpa using h),cA ab]
 simp
theorem vz (zs:List Int):Fz zs zs.reverse fun g=>zs.length - g:=by
 refine ⟨by simp,fun g h=>by omega,fun g h=>by omega,fun i j hi hj=> ?_⟩
 unfold oE
 by_cases h1:j=i + 1
 ·rw [if_pos h1,if_neg ab,if_pos ab,xh ab]
  rw [show zs.length - 1 - i=zs.length - j by omega]
 ·rw [if_neg h1]
  by_cases h2:i=j + 1
  ·rw [if_pos h2,if_pos ab,xh ab,show zs.length - 1 - j=zs.length - i by omega]
  ·rw [if_neg h2,if_neg ab,if_neg ab]
theorem wW (σ:Nat→Nat) (i j:Nat):∀m,(gN i j m).map σ=gN (σ i) (σ j) m
 | 0=>rfl
 | m + 1=>by simp [gN,wW σ i j m]
theorem xN {Y:Type} (G:Nat→Y→Y) (σ:Nat→Nat):∀(w:List Nat) (y:Y),cU (fun g=>G (σ g)) y w=cU G y (w.map σ)
 | [],_=>rfl
 | g :: w,y=>xN G σ w (G (σ g) y)
theorem ot.lP {Y:Type} {zs zs':List Int} {σ:Nat→Nat} {G:Nat→Y→Y} (A:ot (oE zs) (zs.length + 1) G) (t:Fz zs zs' σ):ot (oE zs') (zs'.length + 1) fun g=>G (σ g):=by
 rw [t.len]
 refine ⟨fun g y hg=>A.inv _ _ (t.lt g hg),fun i j y hi hj hij=> ?_⟩
 rw [xN,wW,t.lb i j hi hj]
 exact A.rel _ _ y (t.lt i hi) (t.lt j hj) fun e=>hij (by rw [←t.inv i hi,←t.inv j hj,e])
theorem Dj {Y:Type} {zs:List Int} (hp:∀i,i < zs.length→0 < aD zs i) (h:wH zs) {G:Nat→Y→Y} (A:ot (oE zs) (zs.length + 1) G) (y0:Y):
  ∃φ:Nat→Y,φ 0=y0∧∀g x,g < zs.length + 1→x < gU zs→φ (fk (fY zs) (gU zs) g x)=G g (φ x):=by
 obtain ⟨φ,h0,h1⟩:=uD (f:=G) (x0:=y0) (ng:=zs.length + 1) (R:=(aS zs).2) (W:= []) A.inv (fun w hw=>⟨h.r w hw,fun y=>by
  obtain ⟨i,j,hij,hj,hl,rfl⟩:=qh.1 hw
  rw [oD,(Ar hp hij hj).2]
  exact A.rel i j y ab hj ab⟩) (fun w hw=>by simp at hw) h.nf
 refine ⟨φ,h0,fun g x hg hx=> ?_⟩
 have:=h1 [(g:Int)] x (fun z hz=>by simp at hz;omega) hx
 unfold fk
 rw [if_pos hx]
 simpa [dZ,cU] using this
section
variable {zs:List Int} {tw:List Lv}
theorem sh.xw (D:sh zs tw) {p:List Nat→Prop} (h1:∀g x,g < zs.length + 1→jC tw x=true→p x→p (tf tw g x)):∀(w:List Nat) (x:List Nat),(∀g∈w,g < zs.length + 1)→jC tw x=true→p x→p (cU (tf tw) x w)
 | [],_,_,_,h=>h
 | g :: w,x,hw,hx,h=>sh.xw D h1 w (tf tw g x) (fun k hk=>hw k (by simp [hk])) ((mS tw D.tb).ok g x (by rw [D.len];exact hw g (by simp)) hx) (h1 g x (hw g (by simp)) hx h)
theorem sh.ind (D:sh zs tw) {p:List Nat→Prop} (h0:p (je tw)) (h1:∀g x,g < zs.length + 1→jC tw x=true→p x→p (tf tw g x)) {x:List Nat} (hx:jC tw x=true):p x:=by
 obtain ⟨w,hw,rfl⟩:=D.reach hx
 exact D.xw h1 w _ hw D.zero h0
theorem iU (h:wH zs) {g x:Nat} (hg:g < zs.length + 1) (hx:x < gU zs):fk (fY zs) (gU zs) g x < gU zs∧fk (fY zs) (gU zs) g x=dy (fY zs) x g:=by
 have:=(dj h.leads hx (g:=g) (by rw [iq];exact hg)).1
 unfold fk
 rw [if_pos hx]
 exact ⟨this,rfl⟩
theorem uU (h:wH zs) {p:Nat→Prop} (h0:p 0) (h1:∀g x,g < zs.length + 1→x < gU zs→p x→p (fk (fY zs) (gU zs) g x)):∀x,x < gU zs→p x:=by
 have key:∀(u:List Int) (x:Nat),bA (zs.length + 1) u→x < gU zs→p x→∀k:Nat,dZ (fY zs) (x:Nat) u=(k:Int)→p k:=by
  intro u
  induction u with
  | nil=>
   intro x _ _ hp k hk
   have:k=x:=by
    have h2:(x:Int)=(k:Int):=by simpa [dZ] using hk
    omega
   rw [this];exact hp
  | cons z r ih=>
   intro x hu hx hp k hk
   have hz:=hu z (by simp)
   obtain ⟨t1,t2⟩:=iU h (g:=z.toNat) ab hx
   refine ih _ (fun y hy=>hu y (by simp [hy])) t1 (h1 z.toNat x ab hx hp) k ?_
   have e:=(dj h.leads hx (g:=z.toNat) (by rw [iq];omega)).2
   rw [t2,←e]
   exact hk
 intro x hx
 obtain ⟨u,u1,u2⟩:=tt h.full x hx
 exact key u 0 u1 qb h0 x u2
end
structure IX (zs':List Int) (tw:List Lv) (σ:Nat→Nat) (θ:List Nat→Nat) (κ:Nat→List Nat):Prop where
 t0:θ (je tw)=0
 k0:κ 0=je tw
 tl:∀x,jC tw x=true→θ x < gU zs'
 kl:∀x,x < gU zs'→jC tw (κ x)=true
 ti:∀x,x < gU zs'→θ (κ x)=x
 ki:∀x,jC tw x=true→κ (θ x)=x
 tm:∀g x,g < zs'.length + 1→jC tw x=true→θ (tf tw (σ g) x)=fk (fY zs') (gU zs') g (θ x)
 km:∀g x,g < zs'.length + 1→x < gU zs'→κ (fk (fY zs') (gU zs') g x)=tf tw (σ g) (κ x)
theorem oH {zs zs':List Int} {tw:List Lv} {σ:Nat→Nat} (D:sh zs tw) (hp:∀i,i < zs'.length→0 < aD zs' i) (t:Fz zs zs' σ) (h:wH zs'):∃θ κ,IX zs' tw σ θ κ:=by
 have A1:ot (oE zs) (zs.length + 1) fun g=>fk (fY zs') (gU zs') (σ g):=(BV hp h).lP t.symm
 have A2:ot (oE zs') (zs'.length + 1) fun g=>ta tw (σ g):=by
  have:=DZ (mS tw D.tb)
  rw [D.len] at this
  exact this.lP t
 obtain ⟨κ,k0,km⟩:=Dj hp h A2 (je tw)
 have pm:=z9 (y0:=0) (Ew zs) A1 tw (by rw [D.len];exact Nat.le_refl _) D.tb D.ub
 have sl:∀g,g < zs'.length + 1→σ g < zs.length + 1:=fun g hg=>t.lt g (by rw [←t.len];exact hg)
 have kl:∀x,x < gU zs'→jC tw (κ x)=true:=uU h (by rw [k0];exact D.zero) fun g x hg hx hx1=>by
  rw [km g x hg hx]
  exact (xe (mS tw D.tb) (by rw [D.len];exact sl g hg) hx1).2
 have km2:∀g x,g < zs'.length + 1→x < gU zs'→κ (fk (fY zs') (gU zs') g x)=tf tw (σ g) (κ x):=fun g x hg hx=>by
  rw [km g x hg hx]
  exact (xe (mS tw D.tb) (by rw [D.len];exact sl g hg) (kl x hx)).1
 have pz:nj (fun g=>fk (fY zs') (gU zs') (σ g)) 0 tw (je tw)=0:=wU _ _ tw
 have pm2:∀g x,g < zs'.length + 1→jC tw x=true→nj (fun g=>fk (fY zs') (gU zs') (σ g)) 0 tw (tf tw (σ g) x)=fk (fY zs') (gU zs') g (nj (fun g=>fk (fY zs') (gU zs') (σ g)) 0 tw x):=fun g x hg hx=>by
  rw [←pm (σ g) x (by rw [D.len];exact sl g hg) hx,t.inv g (by rw [←t.len];exact hg)]
 have back:∀g,g < zs.length + 1→∃k,k < zs'.length + 1∧σ k=g:=fun g hg=>⟨σ g,by rw [t.len];exact t.lt g hg,t.inv g hg⟩
 have tl:∀x,jC tw x=true→nj (fun g=>fk (fY zs') (gU zs') (σ g)) 0 tw x < gU zs':=fun x hx=>by
  refine D.ind (p:=fun x=>nj (fun g=>fk (fY zs') (gU zs') (σ g)) 0 tw x < gU zs') (by rw [pz];exact qb) (fun g x hg hx h1=> ?_) hx
  obtain ⟨k,hk,rfl⟩:=back g hg
  rw [pm2 k x hk hx]
  exact (iU h hk h1).1
 refine ⟨nj (fun g=>fk (fY zs') (gU zs') (σ g)) 0 tw,κ,pz,k0,tl,kl, ?_, ?_,pm2,km2⟩
 ·refine uU h (by rw [k0];exact pz) fun g x hg hx h1=> ?_
  rw [km2 g x hg hx,pm2 g _ hg (kl x hx),h1]
 ·intro x hx
  refine D.ind (p:=fun x=>κ (nj (fun g=>fk (fY zs') (gU zs') (σ g)) 0 tw x)=x) (by rw [pz];exact k0) (fun g x hg hx h1=> ?_) hx
  obtain ⟨k,hk,rfl⟩:=back g hg
  rw [pm2 k x hk hx,km2 k _ hk (tl x hx),h1]
theorem nv {n:Nat} {p q:Nat→Bool} (h:∀d,d < n→p d=true→q d=true) (k:(List.range n).all p=true):(List.range n).all q=true:=dO.2 fun d hd=>h d hd (dO.1 k d hd)
theorem yQ {lb lb':Nat→Nat→Nat} {k:Nat} (hl:∀i j,i < k→j < k→lb i j=lb' i j) {E:List Nat} (h:pN lb k E=true):pN lb' k E=true:=by
 match E,h with
 | [],_=>rfl
 | [s],h=>exact absurd h (by simp [pN])
 | [s,t],h=>exact h
 | s :: t :: x :: E,h=>
  simp only [pN,Bool.and_eq_true,Nat.blt_eq] at h ⊢
  rw [←hl s t h.1 h.2.1]
  exact h
theorem xx {lb lb':Nat→Nat→Nat} :∀(r:List Lv),(∀i j,i < r.length→j < r.length→lb i j=lb' i j)→Bq lb r=true→Bq lb' r=true
 | [],_,_=>rfl
 | L :: r,hl,h=>by
  have hl2:∀i j,i < r.length + 1→j < r.length + 1→lb i j=lb' i j:=hl
  rw [Bq,Bool.and_eq_true] at h ⊢
  refine ⟨nv (fun d hd h1=>nv (fun g hg h2=> ?_) h1) h.1,xx r (fun i j hi hj=>hl2 i j ab ab) h.2⟩
  rw [Bool.and_eq_true] at h2 ⊢
  refine ⟨h2.1,nv (fun j hj h3=> ?_) h2.2⟩
  rw [Bool.or_eq_true,Bool.and_eq_true] at h3 ⊢
  rw [←hl2 g j hg hj]
  exact h3.imp id fun h4=>⟨h4.1,yQ (fun i j hi hj=>hl2 i j ab ab) h4.2⟩
theorem tK {lb lb':Nat→Nat→Nat} :∀(r:List Lv),(∀i j,i < r.length→j < r.length→lb i j=lb' i j)→nI lb r=true→nI lb' r=true
 | [],_,_=>rfl
 | L :: r,hl,h=>by
  have hl2:∀i j,i < r.length + 1→j < r.length + 1→lb i j=lb' i j:=hl
  rw [nI,Bool.and_eq_true] at h ⊢
  refine ⟨?_,tK r (fun i j hi hj=>hl2 i j ab ab) h.2⟩
  have h1:=h.1
  unfold Fl at h1 ⊢
  simp only [Bool.and_eq_true] at h1 ⊢
  refine ⟨h1.1,h1.2.1,h1.2.2.1,nv (fun d hd h2=> ?_) h1.2.2.2⟩
  rw [Bool.or_eq_true,Bool.and_eq_true,Bool.and_eq_true] at h2 ⊢
  refine h2.imp id fun h3=>⟨h3.1,h3.2.1,nv (fun g hg h4=> ?_) h3.2.2⟩
  rw [←hl2 (par L d) g (by simpa [Nat.blt_eq] using h3.2.1) hg]
  exact h4
theorem qe {zs:List Int} {i:Nat} (h:i + 1 < zs.length):aD zs.dropLast i=aD zs i:=by
 rw [cA (by simp;omega),cA ab]
 simp
theorem F2 {zs:List Int} {i j:Nat} (hi:i < zs.length) (hj:j < zs.length):oE zs i j=oE zs.dropLast i j:=by
 unfold oE
 by_cases h1:j=i + 1
 ·rw [if_pos h1,if_pos h1,qe ab]
 ·rw [if_neg h1,if_neg h1]
  by_cases h2:i=j + 1
  ·rw [if_pos h2,if_pos h2,qe ab]
  ·rw [if_neg h2,if_neg h2]
theorem sh.tail {zs:List Int} {L:Lv} {r:List Lv} (D:sh zs (L :: r)) (hz:zs≠ []):sh zs.dropLast r:=by
 have hp:=List.length_pos_iff.2 hz
 have hr:r.length=zs.length:=by have:=D.len;simpa using this
 have hl:∀i j,i < r.length→j < r.length→oE zs i j=oE zs.dropLast i j:=fun i j hi hj=>F2 ab ab
 have hb:=D.tb
 have hu:=D.ub
 have hs:=D.sb
 rw [Bq,Bool.and_eq_true] at hb
 rw [nI,Bool.and_eq_true] at hu
 rw [E2,Bool.and_eq_true] at hs
 refine ⟨fun i hi=> ?_,by simp;omega,xx r hl hb.2,tK r hl hu.2,hs.2⟩
 simp at hi
 rw [qe ab]
 exact D.pos i ab
theorem sh.Bv {zs:List Int} {L:Lv} {r:List Lv} (D:sh zs (L :: r)) {g:Nat} (hg:g < zs.length) (y:List Nat):tf (L :: r) g (0 :: y)=0 :: tf r g y:=by
 have hr:r.length=zs.length:=by have:=D.len;simpa using this
 have hu:=D.ub
 unfold nI at hu
 simp only [Bool.and_eq_true] at hu
 have e:=vV hu.1 (g:=g) (by rw [hr];exact hg)
 rw [tf,if_neg ab,e]
 congr 2
 omega
end Go.Proofs.Ytfpcfckocmmcnaa
namespace Go.Proofs.Ytfpcfckocmmcnaa
def EJ:Lv:=⟨10,8,(.n (.n (.n (.n (.l 4513860362) (.l 34123633396490)) (.l 33041385456389)) (.n (.l 26444130618122) (.l 34140896822538))) (.n (.n (.n (.l 17592220388106) (.l 34119439092490)) (.l 34140897084932)) (.n (.l 30842361611274) (.l 34140829649674))))⟩
def Ej:Lv:=⟨3,8,(.n (.n (.l 4395959299) (.l 26414065976323)) (.l 17592219927555))⟩
def EB:Lv:=⟨4,8,(.n (.n (.l 4412802308) (.l 26401181140228)) (.n (.l 17592219993348) (.l 26396986836228)))⟩
def Ea:Lv:=⟨5,8,(.n (.n (.n (.l 4429645317) (.l 26422689596933)) (.l 26401181206021)) (.n (.l 17592220059141) (.l 26396936570373)))⟩
def E3:Lv:=⟨7,8,(.n (.n (.n (.l 4463331335) (.l 26409804826631)) (.n (.l 26401181337607) (.l 26431313217543))) (.n (.n (.l 17592220190727) (.l 26405560190983)) (.l 26396936701959)))⟩
def EY:Lv:=⟨6,8,(.n (.n (.n (.l 4446488326) (.l 26409804760838)) (.l 26401181271814)) (.n (.n (.l 17592220124934) (.l 26405610456838)) (.l 26396936636166)))⟩
def EG:List (List Int×List Lv):= [([4,3,3,3], [EJ,DO,zY,pU,eW]),
 ([2,2,2,3], [Ej,mK,lh,iz,eW]),
 ([2,2,2,4], [EB,mK,lh,iz,eW]),
 ([2,2,2,5], [Ea,mK,lh,iz,eW]),
 ([2,2,2,7], [E3,mK,lh,iz,eW]),
 ([2,2,2,6], [EY,mK,lh,iz,eW])]
theorem IU:EG.all EF=true:=by decide +kernel
theorem IK:EG.all FA=true:=by decide +kernel
theorem IL:EG.all GD=true:=by decide +kernel
theorem Gz:(vw.all fun zs=>vw.contains zs.reverse || EG.any fun p=>p.1 == zs.reverse)=true:=by decide +kernel
theorem Fa {zs:List Int} (h:zs∈vw):∃tw,sh zs.reverse tw:=by
 have h1:=List.all_eq_true.1 Gz zs h
 rw [Bool.or_eq_true] at h1
 rcases h1 with h2 | h2
 ·obtain ⟨tw,D,_⟩:=Dt (List.contains_iff_mem.1 h2)
  exact ⟨tw,D⟩
 ·obtain ⟨⟨ys,tw⟩,hm,e⟩:=List.any_eq_true.1 h2
  have e:ys=zs.reverse:=eq_of_beq e
  subst e
  have h1:=List.all_eq_true.1 IU _ hm
  unfold EF at h1
  simp only [Bool.and_eq_true] at h1
  obtain ⟨p1,p2,p3⟩:=h1
  refine ⟨tw,fun j hj=> ?_,eq_of_beq p2,p3,List.all_eq_true.1 IK _ hm,List.all_eq_true.1 IL _ hm⟩
  rw [cA hj]
  simpa using List.all_eq_true.1 p1 _ (List.getElem_mem hj)
end Go.Proofs.Ytfpcfckocmmcnaa
namespace Go.Proofs.Ytfpcfckocmmcnaa
abbrev jv:=_root_.Fin 419
structure V5 where
 a:jv
 b:jv
 c:jv
 d:jv
 e:jv
def Hc (u v:V5):Bool:=u.a == v.a && (u.b == v.b && (u.c == v.c && (u.d == v.d && u.e == v.e)))
theorem uP {u v:V5} :Hc u v=true↔u=v:=by
 obtain ⟨a,b,c,d,e⟩:=u
 obtain ⟨a',b',c',d',e'⟩:=v
 unfold Hc
 simp only [Bool.and_eq_true,beq_iff_eq,V5.mk.injEq]
def V5.Cn (v:V5):Nat→jv
 | 0=>v.a
 | 1=>v.b
 | 2=>v.c
 | 3=>v.d
 | _=>v.e
def mr (A:Nat→Nat→jv) (i:Nat) (v:V5):V5:=
 ⟨v.a - A i 0 * v.Cn i,v.b - A i 1 * v.Cn i,v.c - A i 2 * v.Cn i,v.d - A i 3 * v.Cn i,v.e - A i 4 * v.Cn i⟩
def oZ (u v:V5):V5:=⟨u.a + v.a,u.b + v.b,u.c + v.c,u.d + v.d,u.e + v.e⟩
def nF (k:jv) (v:V5):V5:=⟨k * v.a,k * v.b,k * v.c,k * v.d,k * v.e⟩
def Ck:Nat→V5
 | 0=>⟨1,0,0,0,0⟩
 | 1=>⟨0,1,0,0,0⟩
 | 2=>⟨0,0,1,0,0⟩
 | 3=>⟨0,0,0,1,0⟩
 | _=>⟨0,0,0,0,1⟩
theorem F4 (a b c d e:jv):(a + b) - c * (d + e)=(a - c * d) + (b - c * e):=by grind
theorem Gn (a k c d:jv):(k * a) - c * (k * d)=k * (a - c * d):=by grind
theorem FE (u v:V5) (i:Nat):(oZ u v).Cn i=u.Cn i + v.Cn i:=by
 unfold V5.Cn oZ
 split<;>rfl
theorem G6 (k:jv) (v:V5) (i:Nat):(nF k v).Cn i=k * v.Cn i:=by
 unfold V5.Cn nF
 split<;>rfl
theorem Gp (A:Nat→Nat→jv) (i:Nat) (u v:V5):mr A i (oZ u v)=oZ (mr A i u) (mr A i v):=by
 unfold mr
 rw [FE]
 unfold oZ
 simp only [F4]
theorem GO (A:Nat→Nat→jv) (i:Nat) (k:jv) (v:V5):mr A i (nF k v)=nF k (mr A i v):=by
 unfold mr
 rw [G6]
 unfold nF
 simp only [Gn]
theorem nP (A:Nat→Nat→jv):∀(w:List Nat) (u v:V5),cU (mr A) (oZ u v) w=oZ (cU (mr A) u w) (cU (mr A) v w)
 | [],_,_=>rfl
 | g :: w,u,v=>by
  show cU (mr A) (mr A g (oZ u v)) w=_
  rw [Gp];exact nP A w _ _
theorem ma (A:Nat→Nat→jv) (k:jv):∀(w:List Nat) (v:V5),cU (mr A) (nF k v) w=nF k (cU (mr A) v w)
 | [],_=>rfl
 | g :: w,v=>by
  show cU (mr A) (mr A g (nF k v)) w=_
  rw [GO];exact ma A k w _
theorem zU (v:V5):v=oZ (nF v.a (Ck 0)) (oZ (nF v.b (Ck 1)) (oZ (nF v.c (Ck 2)) (oZ (nF v.d (Ck 3)) (nF v.e (Ck 4))))):=by
 obtain ⟨a,b,c,d,e⟩:=v
 unfold oZ nF Ck
 simp only [V5.mk.injEq]
 refine ⟨?_, ?_, ?_, ?_, ?_⟩<;>grind
theorem CK {A:Nat→Nat→jv} {w:List Nat} (h:∀k,k < 5→cU (mr A) (Ck k) w=Ck k) (v:V5):cU (mr A) v w=v:=by
 conv=>lhs;rw [zU v]
 rw [nP,nP,nP,nP,ma,ma,ma,ma,ma,h 0 ab,h 1 ab,h 2 ab,h 3 ab,h 4 ab,←zU v]
def IN (m:Int):jv:=if m=3 then 1 else if m=4 then 2 else if m=5 then 22 else if m=6 then 3 else if m=7 then 198 else 4
def fS (zs:List Int) (i j:Nat):jv:=
 if i=j then 2 else if j=i + 1 then (if aD zs i=2 then 0 else 418) else if i=j + 1 then (if aD zs j=2 then 0 else 0 - IN (aD zs j)) else 0
def As (A:Nat→Nat→jv) (w:List Nat) (x:V5):Nat→V5→Bool
 | 0,_=>true
 | k + 1,v=> !Hc (cU (mr A) v w) x && As A w x k (cU (mr A) v w)
def Gg (zs:List Int) (w:List Nat) (x:V5):Bool:=
 (List.range (zs.length + 1)).all (fun i=>(List.range 5).all (fun k=>Hc (mr (fS zs) i (mr (fS zs) i (Ck k))) (Ck k)) && (List.range (zs.length + 1)).all fun j=> !Nat.blt i j || (List.range 5).all fun k=>Hc (cU (mr (fS zs)) (Ck k) (gN i j (ft zs i j).toNat)) (Ck k))
 && (w.all (fun g=>Nat.blt g (zs.length + 1)) && As (fS zs) w x 400 x)
def Cq (A:Nat→Nat→jv) (w:List Nat) (x:V5):Nat→V5
 | 0=>x
 | k + 1=>cU (mr A) (Cq A w x k) w
theorem zF {A:Nat→Nat→jv} {w:List Nat} {x:V5} :∀(n k:Nat),As A w x n (Cq A w x k)=true→∀d,1≤d→d≤n→Cq A w x (k + d)≠x
 | 0,_,_=>fun d h1 h2=>by omega
 | n + 1,k,h=>fun d h1 h2=>by
  rw [As,Bool.and_eq_true] at h
  by_cases e:d=1
  ·subst e
   have:=h.1
   intro e
   have h2:=uP.2 e
   have h2:Hc (cU (mr A) (Cq A w x k) w) x=true:=h2
   rw [h2] at this;cases this
  ·have:=zF n (k + 1) h.2 (d - 1) ab ab
   rwa [show k + 1 + (d - 1)=k + d by omega] at this
theorem Ey {zs:List Int} {w:List Nat} {x:V5} (hB:Gg zs w x=true) (h:At (zs.length + 1) (aS zs).2 []):400 < oF (zs.length + 1) (aS zs).2 []:=by
 unfold Gg at hB
 simp only [Bool.and_eq_true] at hB
 obtain ⟨hA,hw,hx⟩:=hB
 have hw:∀g∈w,g < zs.length + 1:=fun g hg=>by simpa [Nat.blt_eq] using List.all_eq_true.1 hw g hg
 have inv:∀g v,g < zs.length + 1→mr (fS zs) g (mr (fS zs) g v)=v:=fun g v hg=>by
  have h1:=dO.1 hA g hg
  rw [Bool.and_eq_true] at h1
  exact CK (A:=fS zs) (w:= [g,g]) (fun k hk=>uP.1 (dO.1 h1.1 k hk)) v
 have rel:∀r∈(aS zs).2,∀v,cU (mr (fS zs)) v (r.map Int.toNat)=v:=fun r hr v=>by
  obtain ⟨i,j,hij,hj,_,rfl⟩:=qh.1 hr
  rw [oD]
  have h1:=dO.1 hA i ab
  rw [Bool.and_eq_true] at h1
  have h2:=dO.1 h1.2 j hj
  rw [Bool.or_eq_true] at h2
  rcases h2 with h2 | h2
  ·exfalso
   have h3:Nat.blt i j=true:=by rw [Nat.blt_eq];exact hij
   rw [h3] at h2;cases h2
  ·exact CK (fun k hk=>uP.1 (dO.1 h2 k hk)) v
 obtain ⟨φ,p0,p1⟩:=uD (f:=mr (fS zs)) (x0:=x) inv (fun r hr=>⟨h.r r hr,rel r hr⟩) (fun r hr=>by simp at hr) h.nf
 have hl:(oG (zs.length + 1) (aS zs).2 []).length=zs.length + 1:=nV
 obtain ⟨t,t0,ts⟩:∃t:Nat→Nat,t 0=0∧∀k,t (k + 1)=(dZ (oG (zs.length + 1) (aS zs).2 []) (t k:Nat) (w.map fun g:Nat=>(g:Int))).toNat:=
  ⟨fun k=>Nat.rec 0 (fun _ y=>(dZ (oG (zs.length + 1) (aS zs).2 []) (y:Nat) (w.map fun g:Nat=>(g:Int))).toNat) k,rfl,fun _=>rfl⟩
 have tl:∀k,t k < oF (zs.length + 1) (aS zs).2 []∧φ (t k)=Cq (fS zs) w x k:=by
  intro k
  induction k with
  | zero=>exact ⟨by rw [t0];exact qb,by rw [t0,p0];rfl⟩
  | succ k ih=>
   obtain ⟨y,y1,y2⟩:=v9 h.leads (w:=w.map fun g:Nat=>(g:Int)) (by rw [hl];exact zJ hw) ih.1
   have q:=p1 (w.map fun g:Nat=>(g:Int)) (t k) (zJ hw) ih.1
   rw [y1,Int.toNat_natCast,Ao,ih.2] at q
   rw [ts,y1,Int.toNat_natCast]
   exact ⟨y2,q⟩
 have back:∀i d,Cq (fS zs) w x (i + d)=Cq (fS zs) w x i→Cq (fS zs) w x d=x:=by
  intro i
  induction i with
  | zero=>intro d e;rwa [Nat.zero_add] at e
  | succ i ih=>
   intro d e
   rw [show i + 1 + d=(i + d) + 1 by omega] at e
   have e2:=congrArg (fun v=>cU (mr (fS zs)) v w.reverse) e
   have r1:=oe inv w (Cq (fS zs) w x (i + d)) hw
   have r2:=oe inv w (Cq (fS zs) w x i) hw
   have e3:cU (mr (fS zs)) (cU (mr (fS zs)) (Cq (fS zs) w x (i + d)) w) w.reverse=cU (mr (fS zs)) (cU (mr (fS zs)) (Cq (fS zs) w x i) w) w.reverse:=e2
   rw [r1,r2] at e3
   exact ih d e3
 have hne:=zF 400 0 hx
 have inj:∀i,i∈List.range 401→∀j,j∈List.range 401→t i=t j→i=j:=by
  have one:∀i j,i < j→j≤400→t i≠t j:=fun i j hij hj e=>by
   have e1:=(tl i).2
   rw [e,(tl j).2] at e1
   have:=back i (j - i) (by rw [show i + (j - i)=j by omega];exact e1)
   exact hne (j - i) ab ab (by rw [Nat.zero_add];exact this)
  intro i hi j hj e
  have hi:=List.mem_range.1 hi
  have hj:=List.mem_range.1 hj
  rcases Nat.lt_trichotomy i j with h1 | h1 | h1
  ·exact absurd e (one i j h1 ab)
  ·exact h1
  ·exact absurd e.symm (one j i h1 ab)
 have:=oR ((List.range 401).map t) (List.range (oF (zs.length + 1) (aS zs).2 [])) (oT List.nodup_range inj) (fun y hy=>by
  obtain ⟨k,_,rfl⟩:=List.mem_map.1 hy
  exact List.mem_range.2 (tl k).1)
 rw [List.length_map,List.length_range,List.length_range] at this
 omega
end Go.Proofs.Ytfpcfckocmmcnaa
namespace Go.Proofs.Ytfpcfckocmmcnaa
def ld:List (List Int×List Nat×Nat):= [([0], [0,1],0),
 ([4,4], [0,1,2],0),
 ([3,6], [0,1,2],0),
 ([6,3], [0,1,2],0),
 ([4,3,4], [0,1,2,3],0),
 ([3,4,3,3], [0,1,2,3,4],0),
 ([4,3,3,4], [0,1,2,3,4],0),
 ([5,5], [0,1,2],0),
 ([3,7], [0,1,2],0),
 ([0,3], [0,1,2],0),
 ([5,3,3,3], [0,1,2,3,4],0),
 ([2,0], [0,1,2],1),
 ([4,4,2], [0,1,2,3],0),
 ([0,0], [0,1],0),
 ([0,2], [0,1,2],0),
 ([0,4], [0,1,2],0),
 ([0,5], [0,1,2],0),
 ([0,6], [0,1,2],0),
 ([3,0], [0,1,2],0),
 ([4,0], [0,1,2],0),
 ([4,5], [1,0,1,2],0),
 ([4,6], [0,1,2],0),
 ([5,0], [0,1,2],0),
 ([5,4], [1,0,1,2],0),
 ([5,6], [0,1,2],0),
 ([6,0], [0,1,2],0),
 ([6,4], [0,1,2],0),
 ([6,5], [0,1,2],0),
 ([6,6], [0,1,2],0),
 ([0,0,0], [0,1,2,3],0),
 ([0,0,2], [0,1],0),
 ([0,0,3], [0,1,2,3],0),
 ([0,0,4], [0,1,2,3],0),
 ([0,0,5], [0,1,2,3],0),
 ([0,0,6], [0,1,2,3],0),
 ([0,2,0], [0,1,2,3],0),
 ([0,2,2], [0,1,2,3],0),
 ([0,2,3], [0,1,2,3],0),
 ([0,2,4], [0,1,2,3],0),
 ([0,2,5], [0,1,2,3],0),
 ([0,2,6], [0,1,2,3],0),
 ([0,3,0], [0,1,2,3],0),
 ([0,3,2], [0,1,2,3],0),
 ([0,3,3], [0,1,2,3],0),
 ([0,3,4], [0,1,2,3],0),
 ([0,3,5], [0,1,2,3],0),
 ([0,3,6], [0,1,2,3],0),
 ([0,4,0], [0,1],0),
 ([0,4,2], [0,1,2,3],0),
 ([0,4,3], [0,1,2,3],0),
 ([0,4,4], [0,1,2,3],0),
 ([0,4,5], [0,1],0),
 ([0,4,6], [0,1,2,3],0),
 ([0,5,0], [0,1,2,3],0),
 ([0,5,2], [0,1,2,3],0),
 ([0,5,3], [0,1,2,3],0),
 ([0,5,4], [0,1,2,3],0),
 ([0,5,5], [0,1,2,3],0),
 ([0,5,6], [0,1,2,3],0),
 ([0,6,0], [0,1,2,3],0),
 ([0,6,2], [0,1,2,3],0),
 ([0,6,3], [0,1,2,3],0),
 ([0,6,4], [0,1,2,3],0),
 ([0,6,5], [0,1,2,3],0),
 ([0,6,6], [0,1,2,3],0),
 ([2,0,0], [0,1,2],1),
 ([2,0,2], [0,1,2,3],1),
 ([2,0,3], [0,1,2,3],1),
 ([2,0,4], [0,1,2,3],1),
 ([2,0,5], [0,1,2,3],1),
 ([2,0,6], [0,1,2,3],1),
 ([2,2,0], [0,1,2,3],2),
 ([2,3,0], [0,1,2,3],1),
 ([2,3,6], [0,1,2,3],1),
 ([2,4,0], [0,1,2,3],1),
 ([2,4,4], [0,1,2,3],1),
 ([2,4,5], [1,2,3,2],1),
 ([2,4,6], [0,1,2,3],1),
 ([2,5,0], [0,1,2,3],1),
 ([2,5,4], [1,2,3,2],1),
 ([2,5,5], [0,1,2,3],1),
 ([2,5,6], [0,1,2,3],1),
 ([2,6,0], [0,1,2,3],1),
 ([2,6,3], [0,1,2,3],1),
 ([2,6,4], [0,1,2,3],1),
 ([2,6,5], [0,1,2,3],1),
 ([2,6,6], [0,1,2,3],1),
 ([3,0,0], [0,1,2,3],0),
 ([3,0,2], [0,1,2,3],0),
 ([3,0,3], [0,1,2,3],0),
 ([3,0,4], [0,1,2,3],0),
 ([3,0,5], [0,1,2,3],0),
 ([3,0,6], [0,1,2,3],0),
 ([3,2,0], [0,1,2,3],2),
 ([3,3,0], [0,1,2,3],0),
 ([3,3,6], [0,1,2,3],0),
 ([3,4,0], [0,1,2,3],0),
 ([3,4,4], [0,1,2,3],0),
 ([3,4,5], [0,1,2,3],0),
 ([3,4,6], [0,1,2,3],0),
 ([3,5,0], [0,1,2,3],0),
 ([3,5,3], [0,1,2,3],0),
 ([3,5,4], [0,1,2,3],0),
 ([3,5,5], [0,1,2,3],0),
 ([3,5,6], [1,2,3],1),
 ([3,6,0], [0,1,2,3],0),
 ([3,6,2], [0,1,2,3],0),
 ([3,6,3], [0,1,2,3],0),
 ([3,6,4], [0,1,2,3],0),
 ([3,6,5], [0,1,2,3],0),
 ([3,6,6], [0,1,2,3],0),
 ([4,0,0], [0,1,2,3],0),
 ([4,0,2], [0,1,2,3],0),
 ([4,0,3], [0,1,2,3],0),
 ([4,0,4], [0,1,2,3],0),
 ([4,0,5], [0,1,2,3],0),
 ([4,0,6], [0,1,2,3],0),
 ([4,2,0], [0,1,2,3],2),
 ([4,3,0], [0,1,2,3],0),
 ([4,3,5], [0,1,2,3],0),
 ([4,3,6], [0,1,2,3],0),
 ([4,4,0], [0,1,2,3],0),
 ([4,4,3], [0,1,2,3],0),
 ([4,4,4], [0,1,2,3],0),
 ([4,4,5], [0,1,2,3],0),
 ([4,4,6], [0,1,2,3],0),
 ([4,5,0], [0,1,2,3],0),
 ([4,5,2], [1,0,1,2],0),
 ([4,5,3], [0,1,2,3],0),
 ([4,5,4], [0,1,2,3],0),
 ([4,5,5], [0,1,2,3],0),
 ([4,5,6], [0,1,2,3],0),
 ([4,6,0], [0,1,2,3],0),
 ([4,6,2], [0,1,2,3],0),
 ([4,6,3], [0,1,2,3],0),
 ([4,6,4], [0,1,2,3],0),
 ([4,6,5], [0,1,2,3],0),
 ([4,6,6], [0,1,2,3],0),
 ([5,0,0], [0,1,2,3],0),
 ([5,0,2], [0,1,2,3],0),
 ([5,0,3], [0,1,2,3],0),
 ([5,0,4], [0,1,2,3],0),
 ([5,0,5], [0,1,2,3],0),
 ([5,0,6], [0,1,2,3],0),
 ([5,2,0], [0,1,2,3],2),
 ([5,3,0], [0,1,2,3],0),
 ([5,3,4], [0,1,2,3],0),
 ([5,3,5], [0,1,2,3],0),
 ([5,3,6], [0,1,2,3],0),
 ([5,4,0], [1,2,3],1),
 ([5,4,2], [0,1,2,1],0),
 ([5,4,3], [0,1,2,3],0),
 ([5,4,4], [0,1,2,3],0),
 ([5,4,5], [0,1,2,3],0),
 ([5,4,6], [0,1,2,3],0),
 ([5,5,0], [0,1,2,3],0),
 ([5,5,2], [0,1,2,3],0),
 ([5,5,3], [0,1,2,3],0),
 ([5,5,4], [0,1,2,3],0),
 ([5,5,5], [0,1,2],0),
 ([5,5,6], [0,1,2,3],0),
 ([5,6,0], [0,1,2,3],0),
 ([5,6,2], [0,1,2,3],0),
 ([5,6,3], [0,1,2,3],0),
 ([5,6,4], [0,1,2,3],0),
 ([5,6,5], [0,1,2,3],0),
 ([5,6,6], [0,1,2,3],0),
 ([6,0,0], [0,1,2,3],0),
 ([6,0,2], [0,1,2,3],0),
 ([6,0,3], [0,1,2,3],0),
 ([6,0,4], [0,1,2,3],0),
 ([6,0,5], [0,1,2,3],0),
 ([6,0,6], [0,1,2,3],0),
 ([6,2,0], [0,1,2,3],2),
 ([6,3,0], [0,1,2,3],0),
 ([6,3,2], [0,1,2,3],0),
 ([6,3,3], [0,1,2,3],0),
 ([6,3,4], [0,1,2,3],0),
 ([6,3,5], [0,1,2,3],0),
 ([6,3,6], [0,1,2,3],0),
 ([6,4,0], [0,1,2,3],0),
 ([6,4,2], [0,1,2,3],0),
 ([6,4,3], [0,1,2,3],0),
 ([6,4,4], [0,1,2,3],0),
 ([6,4,5], [0,1,2,3],0),
 ([6,4,6], [0,1,2,3],0),
 ([6,5,0], [0,1,2,3],0),
 ([6,5,2], [0,1,2,3],0),
 ([6,5,3], [0,1,2],0),
 ([6,5,4], [0,1,2,3],0),
 ([6,5,5], [0,1,2,3],0),
 ([6,5,6], [0,1,2,3],0),
 ([6,6,0], [0,1,2,3],0),
 ([6,6,2], [0,1,2,3],0),
 ([6,6,3], [0,1,2,3],0),
 ([6,6,4], [0,1,2,3],0),
 ([6,6,5], [0,1,2,3],0),
 ([6,6,6], [0,1,2],0),
 ([0,2,2,2], [0,1,2,3,4],0)]
def D9 (p:List Int×List Nat×Nat):Bool:=Gg p.1 p.2.1 (Ck p.2.2)
theorem Di:(zL.all fun zs=>BI zs (BA zs) || ld.any fun p=>p.1 == zs)=true:=by decide +kernel
end Go.Proofs.Ytfpcfckocmmcnaa
namespace Go.Proofs.Ytfpcfckocmmcnaa
theorem Is:((ld.drop 0).take 24).all D9=true:=by decide +kernel
theorem Ho:((ld.drop 24).take 25).all D9=true:=by decide +kernel
end Go.Proofs.Ytfpcfckocmmcnaa
namespace Go.Proofs.Ytfpcfckocmmcnaa
theorem Hu:((ld.drop 49).take 25).all D9=true:=by decide +kernel
theorem Ii:((ld.drop 74).take 25).all D9=true:=by decide +kernel
end Go.Proofs.Ytfpcfckocmmcnaa
namespace Go.Proofs.Ytfpcfckocmmcnaa
theorem Ic:((ld.drop 99).take 25).all D9=true:=by decide +kernel
theorem Io:((ld.drop 124).take 25).all D9=true:=by decide +kernel
end Go.Proofs.Ytfpcfckocmmcnaa
namespace Go.Proofs.Ytfpcfckocmmcnaa
theorem IC:((ld.drop 149).take 25).all D9=true:=by decide +kernel
theorem Hh:((ld.drop 174).take 25).all D9=true:=by decide +kernel
end Go.Proofs.Ytfpcfckocmmcnaa
namespace Go.Proofs.Ytfpcfckocmmcnaa
theorem E6:ld.all D9=true:=by
 have e:ld=(ld.drop 0).take 24 ++ (ld.drop 24).take 25 ++ (ld.drop 49).take 25 ++ (ld.drop 74).take 25 ++ (ld.drop 99).take 25 ++ (ld.drop 124).take 25 ++ (ld.drop 149).take 25 ++ (ld.drop 174).take 25:=rfl
 rw [e]
 simp only [List.all_append,Is,Ho,Hu,Ii,Ic,Io,IC,Hh]
 rfl
theorem Gt {zs:List Int} (hA:FV zs) (hd:cK zs=true) (hf:BI zs (BA zs)=false) (h:At (zs.length + 1) (aS zs).2 []):400 < oF (zs.length + 1) (aS zs).2 []:=by
 have h1:=List.all_eq_true.1 Di zs (vK hA hd)
 rw [hf,Bool.false_or] at h1
 obtain ⟨p,hp,e⟩:=List.any_eq_true.1 h1
 have e:p.1=zs:=eq_of_beq e
 have h2:=List.all_eq_true.1 E6 p hp
 unfold D9 at h2
 rw [e] at h2
 exact Ey h2 h
end Go.Proofs.Ytfpcfckocmmcnaa
namespace Go.Proofs.Ytfpcfckocmmcnaa
open Go.RowKit
theorem ep.Fs {w:World} {ao:Option Addr} {n:Nat} {zss:List (List Int)} (h:ep w ao n zss):∃us,sV w ao n us∧(∀u∈us,u.oneCell'=true)∧∀j u,us[j]? =some u→Co w u (aT zss j):=by
 rcases Nat.eq_zero_or_pos n with h0 | h0
 ·subst h0
  exact ⟨[],⟨rfl,ab,fun h=>absurd h ab⟩,fun u hu=>(nomatch hu),fun j u hu=>by simp at hu⟩
 ·obtain ⟨b,off,e,hc⟩:=h.2.2 h0
  have hget:∀j u,((List.range n).map fun j=>(w.cell? ⟨b,off + j,none⟩).getD undef)[j]? =some u→j < n∧w.cell? ⟨b,off + j,none⟩=some u∧Co w u (aT zss j):=fun j u hu=>by
   rw [List.getElem?_map] at hu
   obtain ⟨i,hi,rfl⟩:=Option.map_eq_some_iff.1 hu
   have hj:j < n:=by
    have:=(List.getElem?_eq_some_iff.1 hi).1
    simpa using this
   rw [List.getElem?_range hj] at hi
   obtain rfl:=Option.some.inj hi
   obtain ⟨u,h1,h2⟩:=hc j hj
   rw [h1]
   exact ⟨hj,rfl,h2⟩
  refine ⟨_,⟨by simp,h.2.1,fun _=>⟨b,off,e,fun j u hu=>(hget j u hu).2.1⟩⟩,fun u hu=> ?_,fun j u hu=>(hget j u hu).2.2⟩
  obtain ⟨j,hj,e2⟩:=List.getElem_of_mem hu
  obtain ⟨_,_,a',n',c',e3,_⟩:=hget j u (by rw [←e2];exact List.getElem?_eq_getElem hj)
  rw [e3];rfl
theorem sV.below {w w':World} {ao:Option Addr} {n:Nat} {us:List Value} (h:sV w ao n us) (hb:Below w.heap.size w w'):sV w' ao n us:=by
 refine ⟨h.1,h.2.1,fun h0=> ?_⟩
 obtain ⟨b,off,e,hc⟩:=h.2.2 h0
 refine ⟨b,off,e,fun j u hu=> ?_⟩
 have:=hc j u hu
 exact (hb.cell (p:=⟨b,off + j,none⟩) (World.block_lt_of_cell? w _ this)).trans this
theorem zh (n:Nat) (w:World) (hn:n≤1048576):
  Calls Try.prog 85 #[.slice none 0 0, .int .i64 n] w fun e w'=>∃ao' c',e= .returned (.slice ao' 0 c')∧Own w' w.heap.size 24 ao' 0 c' []∧Below w.heap.size w w':=by
 by_cases h0:n=0
 ·subst h0
  go_enter Try.func85,Try.ntmps85
  go_wp2
  go_ret
  exact ⟨_,_,rfl,Own.iX _ _ _,Below.refl _ _⟩
 ·have q0:(0:Int) < (n:Int):=by omega
  obtain ⟨i,hi,hz,hsz,hby⟩:=info_parts kH.info
  have hr:=Lib.run_append_nil_zeros (P:=Try.prog) w 25 3 25 24 i (.slice none 0 0) .i64 .i64 kH.und (by kernel_rfl) hi hz n ab ab ab (by have:=kH.small;rw [hby];omega)
  have hge:=grownCap_ge w n 0 24
  have hle:=grownCap_le_maxLen w n 0 24 (by simp [maxLen];omega)
  obtain ⟨cap,hcap⟩:∃cap,grownCap w n 0 24=cap:=⟨_,rfl⟩
  rw [hcap] at hr hge hle
  have hzs:(Builtin.zeroCells (Value.slice none 0 0).cells n ++ Builtin.zeroCells (Value.slice none 0 0).cells (cap - n)).size=cap:=by
   rw [Array.size_append]
   simp only [size_zeroCells]
   have:(Value.slice none 0 0).cells.size=1:=rfl
   rw [this];omega
  obtain ⟨cs,hcs⟩:∃cs,Builtin.zeroCells (Value.slice none 0 0).cells n ++ Builtin.zeroCells (Value.slice none 0 0).cells (cap - n)=cs:=⟨_,rfl⟩
  rw [hcs] at hr hzs
  have HRR:=Lib.hid hr
  have HZ:=Lib.hid hzs
  have HI:=Lib.hid (And.intro hi hz)
  clear hr hcs hcap hzs hi hz hsz hby
  go_enter Try.func85,Try.ntmps85
  go_wp2_with (at_builtin;refine Lib.wpList_append_run _ rfl _ _ _ _ rfl _ _ rfl rfl _ _ HRR.out ?_)
  go_ret
  refine ⟨_,_,rfl,⟨⟨rfl, .inr ⟨w.heap.size,cap,cs,rfl,Nat.le_refl _,heap_alloc_new w _,Nat.zero_le _,hle,by rw [HZ.out,Nat.mul_one],by simp⟩⟩,ab⟩, ?_⟩
  exact (below_alloc1 w _).trans ((db _).mono (by simp))
def zi (w0:World) (lo:Nat) (w:World) (al:Option Addr) (n:Nat) (Z:List (List Int)):Prop:=0 < n→∃b,al=some ⟨b,0,none⟩∧lo≤b∧b < w.heap.size∧∀j,j < n→∃u,w.cell? ⟨b,j,none⟩=some u∧Co w0 u (aT Z j)
theorem y9 (w0:World) (b0:Nat) (c0:Nat) (a1 a2:Option Addr) (n1 c1 n2 c2:Nat) (R W:List (List Int)) (w:World) (k0:w.cell? ⟨b0,0,none⟩=some (.slice a1 n1 c1)) (k1:w.cell? ⟨b0,1,none⟩=some (.slice a2 n2 c2)) (hb00:Below w0.heap.size w0 w) (h1:ep w0 a1 n1 R) (h2:ep w0 a2 n2 W) (hn1:n1≤100000) (hn2:n2≤100000):
  Calls Try.prog 57 #[.slice (some ⟨b0,0,none⟩) 2 c0] w fun e w'=>∃ao c,e= .returned (.slice ao (n1 + n2) c)∧zi w0 w.heap.size w' ao (n1 + n2) (R ++ W)∧Below w.heap.size w w':=by
 have hb0:=World.block_lt_of_cell? w _ k0
 obtain ⟨us1,v1,o1,r1⟩:=h1.Fs
 obtain ⟨us2,v2,o2,r2⟩:=h2.Fs
 have v1:=v1.below hb00
 have v2:=v2.below hb00
 have hl1:=h1.1
 have hl2:=h2.1
 have hG:=zh (n1 + n2) w ab
 rw [Int.natCast_add] at hG
 have HG:=Lib.hid hG
 have HLS:=Lib.hid (And.intro hl1 hl2)
 clear hG hl1 hl2
 have V1:=Lib.hid (And.intro v1 (And.intro o1 r1))
 have V2:=Lib.hid (And.intro v2 (And.intro o2 r2))
 clear h1 h2 v1 o1 r1 v2 o2 r2
 go_enter Try.func57,Try.ntmps57
 go_wp2_with fail
 refine wp_loop_rounds 3 ?_
 rw [rounds_succ]
 go_wp2_with fail
 rw [rounds_succ]
 go_wp2_with fail
 rw [rounds_succ]
 go_wp2_with fail
 refine HG.out.mono ?_
 rintro e w1 ⟨ag,cg,rfl,og,bg⟩
 have k0':=(bg.cell (p:=⟨b0,0,none⟩) hb0).trans k0
 have k1':=(bg.cell (p:=⟨b0,1,none⟩) hb0).trans k1
 have hs1:=bg.size
 clear k0 k1
 have OG:=Lib.hid og
 have BG:=Lib.hid bg
 clear og bg
 go_wp2_with fail
 refine wp_loop_rounds 3 ?_
 rw [rounds_succ]
 go_wp2_with (at_builtin;refine gp kH _ rfl _ _ rfl w.heap.size ag 0 cg [] rfl OG.out a1 n1 c1 us1 rfl (V1.out.1.below BG.out) V1.out.2.1 ab hs1 ?_;intro ao2 c2' w2 o2 g2 hat2)
 have B2:=BG.out.grown g2 hs1 (fun g hg=>(OG.out.lt g hg).1)
 rw [Nat.zero_add,List.nil_append] at o2
 have O2:=Lib.hid o2
 have k1'':=(B2.cell (p:=⟨b0,1,none⟩) hb0).trans ((BG.out.cell (p:=⟨b0,1,none⟩) hb0).symm.trans k1')
 have hs2:=B2.size
 have HB2:=Lib.hid B2
 clear o2 g2 hat2 B2 k0' k1'
 try rw [Nat.zero_add]
 go_wp2_with fail
 rw [rounds_succ]
 go_wp2_with (at_builtin;refine gp kH _ rfl _ _ rfl w.heap.size ao2 n1 c2' us1 rfl O2.out a2 n2 c2 us2 rfl (V2.out.1.below HB2.out) V2.out.2.1 ab hs2 ?_;intro ao3 c3' w3 o3 g3 hat3)
 have B3:=HB2.out.grown g3 hs2 (fun g hg=>(O2.out.lt g hg).1)
 have O3:=Lib.hid o3
 have HB3:=Lib.hid B3
 clear o3 g3 hat3 B3 k1''
 go_wp2_with fail
 rw [rounds_succ]
 go_wp2_with fail
 go_ret
 refine ⟨ao3,c3',rfl, ?_,HB3.out⟩
 obtain ⟨hl1,hl2⟩:=HLS.out
 have hu1:=V1.out.1.1
 have hu2:=V2.out.1.1
 intro h0
 obtain ⟨g,rfl,hg1,hg2,_,hc,_⟩:=O3.out.form h0
 have hlt:=(O3.out.lt g rfl).2
 refine ⟨g,rfl,(O3.out.lt g rfl).1,hlt,fun j hj=> ?_⟩
 rw [hc j hj]
 by_cases h:j < n1
 ·rw [List.getElem?_append_left ab,List.getElem?_eq_getElem ab]
  refine ⟨_,rfl, ?_⟩
  have:=V1.out.2.2 j _ (List.getElem?_eq_getElem ab)
  rw [show aT (R ++ W) j=aT R j by rw [eF (by rw [List.length_append];omega),eF ab,List.getElem_append_left ab]]
  exact this
 ·rw [List.getElem?_append_right ab,List.getElem?_eq_getElem ab]
  refine ⟨_,rfl, ?_⟩
  have:=V2.out.2.2 (j - us1.length) _ (List.getElem?_eq_getElem ab)
  rw [show aT (R ++ W) j=aT W (j - us1.length) by rw [eF (by rw [List.length_append];omega),eF ab,List.getElem_append_right ab];congr 1;omega]
  exact this
end Go.Proofs.Ytfpcfckocmmcnaa
namespace Go.Proofs.Ytfpcfckocmmcnaa
end Go.Proofs.Ytfpcfckocmmcnaa
namespace Go.Proofs.Ytfpcfckocmmcnaa
open Go.RowKit
structure mI (w wr:World) (N:Nat) (ao:Option Addr) (m c:Nat) (us:List Value) (ds:List (List Int)):Prop where
 res:dQ wr w.heap.size 34 #[.int .i64 0, .slice none 0 0]
 box:dQ wr (w.heap.size + 1) 34 #[.int .i64 N, .slice ao m c]
 row:eT (jV 2) wr (w.heap.size + 2) wr.heap.size 24 ao m c us ds
 size:w.heap.size + 2≤wr.heap.size
 below:Below w.heap.size w wr
 few:m≤1000
theorem DK (ao:Option Addr) (n c:Nat) (w:World) (hn:n≤1048576):Calls Try.prog 65 #[.slice ao n c] w fun e w'=>e= .returned (.int .i64 ((n + 1:Nat):Int))∧w=w':=by
 go_enter Try.func65,Try.ntmps65
 go_wp2
 go_ret
 exact ⟨gI ab,rfl⟩
theorem mI.push {w wr w2 w3 w4:World} {N m c' n1 c1 c2:Nat} {ao' a1 ao2:Option Addr} {us:List Value} {ds:List (List Int)} {zs:List Int} (st:mI w wr N ao' m c' us ds) (hm:m + 1≤1000)
  (b2:Below wr.heap.size wr w2) (o1:Own w2 wr.heap.size 2 a1 n1 c1 (zs.map (Value.int .i64))) (b3:Below w2.heap.size w2 w3) (o4:Own w4 (w.heap.size + 2) 24 ao2 (m + 1) c2 (us ++ [.slice a1 n1 c1]))
  (g4:w3.grownBy w4 (bk ao')) (hat:bk ao2=bk ao'∨bk ao2=some w3.heap.size):
  mI w (w4.setCell ⟨w.heap.size + 1,1,none⟩ (.slice ao2 (m + 1) c2)) N ao2 (m + 1) c2 (us ++ [.slice a1 n1 c1]) (ds ++ [zs]):=by
 have hR:=tC st.row st.size b2 o1 b3 o4 g4 hat
 have hsz:=st.size
 have s2:=b2.size
 have s3:=b3.size
 have s4:=g4.size
 have B4:Below (w.heap.size + 2) wr w4:=((b2.trans (b3.mono s2)).mono hsz).grown g4 ab (fun g hg=>(st.row.own.lt g hg).1)
 have hh:(w4.setCell ⟨w.heap.size + 1,1,none⟩ (.slice ao2 (m + 1) c2)).heap.size=w4.heap.size:=by simp [World.setCell]
 refine ⟨(st.res.below B4 ab).wV (by simp) _, ?_, ?_,by rw [hh];omega,(st.below.trans (B4.mono ab)).setCell (by simp) _,hm⟩
 ·have:=(st.box.below B4 ab).fz 1 (.slice ao2 (m + 1) c2)
  simpa using this
 ·rw [hh]
  exact hR.same (cJ _) fun g h1 _ _=>Below.heap_setCell _ _ _ _ (by simp;omega)
theorem mI.done {w wr:World} {N m c':Nat} {ao':Option Addr} {us:List Value} {ds:List (List Int)} (st:mI w wr N ao' m c' us ds):
  dQ ((wr.setCell ⟨w.heap.size,0,none⟩ (.int .i64 N)).setCell ⟨w.heap.size,1,none⟩ (.slice ao' m c')) w.heap.size 34 #[.int .i64 N, .slice ao' m c']∧
  eT (jV 2) ((wr.setCell ⟨w.heap.size,0,none⟩ (.int .i64 N)).setCell ⟨w.heap.size,1,none⟩ (.slice ao' m c')) (w.heap.size + 2) ((wr.setCell ⟨w.heap.size,0,none⟩ (.int .i64 N)).setCell ⟨w.heap.size,1,none⟩ (.slice ao' m c')).heap.size 24 ao' m c' us ds∧
  Below w.heap.size w ((wr.setCell ⟨w.heap.size,0,none⟩ (.int .i64 N)).setCell ⟨w.heap.size,1,none⟩ (.slice ao' m c')):=by
 have hh:((wr.setCell ⟨w.heap.size,0,none⟩ (.int .i64 N)).setCell ⟨w.heap.size,1,none⟩ (.slice ao' m c')).heap.size=wr.heap.size:=by simp [World.setCell]
 refine ⟨?_, ?_,(st.below.setCell (by simp) _).setCell (by simp) _⟩
 ·have:=(st.res.fz 0 (.int .i64 N)).fz 1 (.slice ao' m c')
  simpa using this
 ·rw [hh]
  exact st.row.same (cJ _) fun g h1 _ _=>by rw [Below.heap_setCell _ _ _ _ (by simp;omega),Below.heap_setCell _ _ _ _ (by simp;omega)]
theorem gY {zs:List Int} {k j:Nat} (h:k < j):fT zs k (j + 1 - (k + 1))=fT zs k (j - (k + 1)) ++ fi zs k j:=by
 rw [show j + 1 - (k + 1)=(j - (k + 1)) + 1 by omega,fT,show k + 1 + (j - (k + 1))=j by omega]
theorem jD (ao:Option Addr) (n c:Nat) (zs:List Int) (w:World) (h:cW w ao n zs) (hz:∀j,j < n→0≤aD zs j∧aD zs j≤32) (hn:n < 5):
  Calls Try.prog 33 #[.slice ao n c] w fun e w'=>∃v,e= .returned v∧oN 2 24 w' w.heap.size w'.heap.size v (aS zs)∧Below w.heap.size w w':=by
 have HL:=Lib.hid h.1
 obtain ⟨N,hN⟩:∃N,n + 1=N:=⟨_,rfl⟩
 have hN5:N≤5:=by omega
 go_enter Try.func33,Try.ntmps33
 go_wp2_with (go_at_call 65;refine (DK ao n c _ ab).mono ?_;rintro e w1 ⟨rfl,hw1⟩;rw [hN];subst hw1)
 have r0:dQ ((w.alloc (.cells #[.int .i64 0, .slice none 0 0] 34)).alloc (.cells #[.int .i64 N, .slice none 0 0] 34)) w.heap.size 34 #[.int .i64 0, .slice none 0 0]:=(bS rfl).alloc _
 have r1:dQ ((w.alloc (.cells #[.int .i64 0, .slice none 0 0] 34)).alloc (.cells #[.int .i64 N, .slice none 0 0] 34)) (w.heap.size + 1) 34 #[.int .i64 N, .slice none 0 0]:=bS (by simp)
 go_loopw [4] (fun i wr=>∃(k m:Nat) (ao':Option Addr) (c':Nat) (us:List Value),i= .int .i64 k∧k≤N∧mI w wr N ao' m c' us (jz zs N k)) (fun i _=>N - (intOf i).toNat)
 case atStart=>exact ⟨0,0,none,0, [],rfl,Nat.zero_le _,r0,r1,eT.dD (Own.iX _ _ _) (fun g hg=>by cases hg),by simp,below_alloc2 _ _ _,ab⟩
 case round=>
  obtain ⟨k,m,ao',c',us,rfl,hk,st⟩:=hrel
  by_cases hlt:k < N
  ·have x0:=st.box.cell 0
   simp at x0
   have ST:=Lib.hid st
   clear st r0 r1
   go_wp2_with fail
   go_loopw [5] (fun i wr=>∃(j m:Nat) (ao':Option Addr) (c':Nat) (us:List Value),i= .int .i64 j∧k < j∧j≤N∧mI w wr N ao' m c' us (jz zs N k ++ fT zs k (j - (k + 1)))) (fun i _=>N - (intOf i).toNat)
   case atStart=>exact ⟨k + 1,m,ao',c',us,by simp,ab,ab,by simpa [fT] using ST.out⟩
   case round=>
    obtain ⟨j,m,ao',c',us,rfl,hkj,hj,st⟩:=hrel
    clear ST x0
    have x0:=st.box.cell 0
    have x1:=st.box.cell 1
    have f1:=st.box.frozen 1
    simp at x0 x1
    have ST:=Lib.hid st
    clear st
    by_cases hlt2:j < N
    ·by_cases hjk:j=k + 1
     ·subst hjk
      obtain ⟨L,hL⟩:∃L:Nat,aD zs k=(L:Int):=⟨(aD zs k).toNat,by have:=hz k ab;omega⟩
      have hL2:L≤32:=by have:=hz k ab;omega
      have hlab:ft zs k (k + 1)=(L:Int):=by unfold ft;rw [if_pos rfl,hL]
      have HLAB:=Lib.hid hlab
      clear hlab
      obtain ⟨b,off,rfl,hc⟩:=(h.below ST.out.below).at_ (k:=k) ab
      rw [hL] at hc
      by_cases hL0:0 < L
      ·have hm:m + 1≤1000:=by have h1:=ST.out.row.len;have h2:=mh zs N k;have h3:=hH zs k ((k + 1) - (k + 1));have h4:N * k≤5 * 5:=Nat.mul_le_mul hN5 ab;rw [List.length_append] at h1;omega
       have hP:cW (wr.alloc (.cells #[.int .i64 k, .int .i64 ((k:Int) + 1)] 2)).drew (some ⟨wr.heap.size,0,none⟩) 2 [(k:Int),((k:Int) + 1)]:=Own.ints (zs:= [(k:Int),((k:Int) + 1)]) (mq (us:= [.int .i64 k, .int .i64 ((k:Int) + 1)]) rfl (Nat.le_refl _) (by simp))
       have bP:Below wr.heap.size wr (wr.alloc (.cells #[.int .i64 k, .int .i64 ((k:Int) + 1)] 2)):=below_alloc1 _ _
       have HP:=Lib.hid hP
       have BP:=Lib.hid bP
       have HM:=Lib.hid hm
       have hsz:=ST.out.size
       have HO:Hid (fi zs k (k + 1)= [dM [(k:Int),((k:Int) + 1)] L]):=Lib.hid (by unfold fi;rw [HLAB.out,if_pos ab];rfl)
       clear hP bP hm
       go_wp2_with fail
       have xP:(wr.alloc (.cells #[.int .i64 k, .int .i64 ((k:Int) + 1)] 2)).cell? ⟨w.heap.size + 1,1,none⟩=some (.slice ao' m c'):=(ST.out.box.alloc _).cell 1
       go_region_law (first | (refine ka (o:=⟨some 42,_,_,_,_,_⟩) kH rfl (.tmp 35) (.tmp 41) rfl (w.heap.size + 2) ao' m c' us rfl (ST.out.row.own.below B3) (.slice a1 (2 * L) c1) w2.heap.size 1 rfl ((bS rfl).cell 0) rfl (by have:=HM.out;omega) (by have:=B3.size;simp at *;omega) ?_;intro ao2 c2 w4 o4 g4 hat;have B4S:Below (w.heap.size + 2) wr w4:=(B3S.grown g4 (by have:=B3.size;omega) (fun g hg=>(ST.out.row.own.lt g hg).1));have x4:w4.cell? ⟨w.heap.size + 1,1,none⟩=some (.slice ao' m c'):=(ST.out.box.below B4S ab).cell 1;have f4:w4.frozen? ⟨w.heap.size + 1,1,none⟩=false:=(ST.out.box.below B4S ab).frozen 1) | (go_simp;go_at_call 23;refine (jT _ 2 2 L [(k:Int),((k:Int) + 1)] _ HP.out ab ab).mono ?_;rintro e w2 ⟨a1,c1,rfl,o1,b1⟩;have B2:Below wr.heap.size wr w2:=bc b1 BP.out.drew;have B2S:=B2.mono hsz;have B3:Below wr.heap.size wr (w2.alloc (.cells #[.slice a1 (2 * L) c1] 24)):=B2.alloc B2.size _;have B3S:=B3.mono hsz;have x2:w2.cell? ⟨w.heap.size + 1,1,none⟩=some (.slice ao' m c'):=(ST.out.box.below B2S ab).cell 1;have x3:(w2.alloc (.cells #[.slice a1 (2 * L) c1] 24)).cell? ⟨w.heap.size + 1,1,none⟩=some (.slice ao' m c'):=(ST.out.box.below B3S ab).cell 1))
       all_goals
        have st2:=ST.out.push HM.out B2 (o1.mono (by simp [World.drew])) (below_alloc1 _ _) o4 g4 hat
        have hs4:=B4S.size
        generalize w4.setCell ⟨w.heap.size + 1,1,none⟩ (.slice ao2 (m + 1) c2)=wf at *
        clear B2 B2S B3 B3S B4S x0 x1 x2 x3 x4 xP f1 f4 o1 b1 o4 g4 hat ST HP BP
        go_wp2_with fail
        go_roundw
        case rel=>exact ⟨(k + 1) + 1,m + 1,ao2,c2,_,by go_num,ab,ab,by rw [gY ab,←List.append_assoc,HO.out];exact st2⟩
        case measure=>simp [intOf];omega
      ·obtain rfl:L=0:=by omega
       have HO:Hid (fi zs k (k + 1)= []):=Lib.hid (by unfold fi;rw [HLAB.out,if_neg ab])
       go_wp2_with fail
       go_roundw
       case rel=>exact ⟨k + 1 + 1,m,ao',c',us,by go_num,ab,ab,by rw [gY ab,←List.append_assoc,HO.out,List.append_nil];exact ST.out⟩
       case measure=>simp [intOf];omega
     ·have hm:m + 1≤1000:=by have h1:=ST.out.row.len;have h2:=mh zs N k;have h3:=hH zs k (j - (k + 1));have h4:N * k≤5 * 5:=Nat.mul_le_mul hN5 ab;rw [List.length_append] at h1;omega
      have hP:cW (wr.alloc (.cells #[.int .i64 k, .int .i64 (j:Int)] 2)).drew (some ⟨wr.heap.size,0,none⟩) 2 [(k:Int),(j:Int)]:=Own.ints (zs:= [(k:Int),(j:Int)]) (mq (us:= [.int .i64 k, .int .i64 (j:Int)]) rfl (Nat.le_refl _) (by simp))
      have bP:Below wr.heap.size wr (wr.alloc (.cells #[.int .i64 k, .int .i64 (j:Int)] 2)):=below_alloc1 _ _
      have HP:=Lib.hid hP
      have BP:=Lib.hid bP
      have HM:=Lib.hid hm
      have hsz:=ST.out.size
      have HO:Hid (fi zs k j= [dM [(k:Int),(j:Int)] 2]):=Lib.hid (by unfold fi ft;rw [if_neg hjk,if_pos ab];rfl)
      clear hP bP hm
      go_wp2_with fail
      have xP:(wr.alloc (.cells #[.int .i64 k, .int .i64 (j:Int)] 2)).cell? ⟨w.heap.size + 1,1,none⟩=some (.slice ao' m c'):=(ST.out.box.alloc _).cell 1
      go_region_law (first | (refine ka (o:=⟨some 42,_,_,_,_,_⟩) kH rfl (.tmp 35) (.tmp 41) rfl (w.heap.size + 2) ao' m c' us rfl (ST.out.row.own.below B3) (.slice a1 (2 * 2) c1) w2.heap.size 1 rfl ((bS rfl).cell 0) rfl (by have:=HM.out;omega) (by have:=B3.size;simp at *;omega) ?_;intro ao2 c2 w4 o4 g4 hat;have B4S:Below (w.heap.size + 2) wr w4:=(B3S.grown g4 (by have:=B3.size;omega) (fun g hg=>(ST.out.row.own.lt g hg).1));have x4:w4.cell? ⟨w.heap.size + 1,1,none⟩=some (.slice ao' m c'):=(ST.out.box.below B4S ab).cell 1;have f4:w4.frozen? ⟨w.heap.size + 1,1,none⟩=false:=(ST.out.box.below B4S ab).frozen 1) | (go_simp;go_at_call 23;refine (jT _ 2 2 2 [(k:Int),(j:Int)] _ HP.out ab ab).mono ?_;rintro e w2 ⟨a1,c1,rfl,o1,b1⟩;have B2:Below wr.heap.size wr w2:=bc b1 BP.out.drew;have B2S:=B2.mono hsz;have B3:Below wr.heap.size wr (w2.alloc (.cells #[.slice a1 (2 * 2) c1] 24)):=B2.alloc B2.size _;have B3S:=B3.mono hsz;have x2:w2.cell? ⟨w.heap.size + 1,1,none⟩=some (.slice ao' m c'):=(ST.out.box.below B2S ab).cell 1;have x3:(w2.alloc (.cells #[.slice a1 (2 * 2) c1] 24)).cell? ⟨w.heap.size + 1,1,none⟩=some (.slice ao' m c'):=(ST.out.box.below B3S ab).cell 1))
      all_goals
       have st2:=ST.out.push HM.out B2 (o1.mono (by simp [World.drew])) (below_alloc1 _ _) o4 g4 hat
       have hs4:=B4S.size
       generalize w4.setCell ⟨w.heap.size + 1,1,none⟩ (.slice ao2 (m + 1) c2)=wf at *
       clear B2 B2S B3 B3S B4S x0 x1 x2 x3 x4 xP f1 f4 o1 b1 o4 g4 hat ST HP BP
       go_wp2_with fail
       go_roundw
       case rel=>exact ⟨j + 1,m + 1,ao2,c2,_,by go_num,ab,ab,by rw [gY ab,←List.append_assoc,HO.out];exact st2⟩
       case measure=>simp [intOf];omega
    ·obtain rfl:j=N:=by omega
     go_wp2_with fail
     go_roundw
     case rel=>exact ⟨k + 1,m,ao',c',us,by go_num,ab,ST.out⟩
     case measure=>simp [intOf];omega
  ·obtain rfl:k=N:=by omega
   have x0:=st.box.cell 0
   have x1:=st.box.cell 1
   have y0:=st.res.cell 0
   have y1:=st.res.cell 1
   have f0:=st.res.frozen 0
   have f1:=st.res.frozen 1
   simp at x0 x1 y0 y1
   have ST:=Lib.hid st
   clear st r0 r1
   go_wp2_with fail
   have st2:=ST.out.done
   generalize (wr.setCell ⟨w.heap.size,0,none⟩ (.int .i64 k)).setCell ⟨w.heap.size,1,none⟩ (.slice ao' m c')=wf at *
   have e0:=st2.1.cell 0
   have e1:=st2.1.cell 1
   simp at e0 e1
   refine bodyPost_ret (v:= .agg #[.int .i64 k, .slice ao' m c']) (by simp [results,Try.f33,go_sem,e0,e1]) rfl ⟨_,rfl,⟨ao',m,c',us, ?_, ?_⟩,st2.2.2⟩
   ·unfold aS;rw [HL.out,hN]
   ·unfold aS;rw [HL.out,hN];exact st2.2.1.mono ab (Nat.le_refl _)
end Go.Proofs.Ytfpcfckocmmcnaa
namespace Go.Proofs.Ytfpcfckocmmcnaa
open Go.RowKit
def sd (zss:List (List Int)):List (List Int):=zss.filter fun z=>decide (0 < z.length)
theorem wb {zss:List (List Int)} {k:Nat} (h:k < zss.length):sd (zss.take (k + 1))=sd (zss.take k) ++ (if 0 < (aT zss k).length then [aT zss k] else []):=by
 unfold sd
 rw [fM h,List.filter_append]
 congr 1
 by_cases e:0 < (aT zss k).length
 ·rw [if_pos e,List.filter_cons_of_pos (by simpa using e)];rfl
 ·rw [if_neg e,List.filter_cons_of_neg (by simpa using e)];rfl
def mR (w0:World) (lo:Nat) (w:World) (al:Option Addr) (n:Nat) (Z:List (List Int)) (ao:Option Addr):Prop:=0 < n→∃b,al=some ⟨b,0,none⟩∧lo≤b∧b < w.heap.size∧bk ao≠some b∧∀j,j < n→∃u,w.cell? ⟨b,j,none⟩=some u∧Co w0 u (aT Z j)
theorem zi.start {w0 w:World} {lo n:Nat} {al:Option Addr} {Z:List (List Int)} (h:zi w0 lo w al n Z):mR w0 lo w al n Z none:=fun h0=>by
 obtain ⟨b,e,h1,h2,h3⟩:=h h0
 exact ⟨b,e,h1,h2,by simp [bk],h3⟩
theorem mR.push {w0 wr w2 w3 w4:World} {lo n:Nat} {al ao' ao2:Option Addr} {Z:List (List Int)} (h:mR w0 lo wr al n Z ao') (b2:Below wr.heap.size wr w2) (b3:Below w2.heap.size w2 w3) (g4:w3.grownBy w4 (bk ao')) (hat:bk ao2=bk ao'∨bk ao2=some w3.heap.size) {p:Addr} (hp:p.block < lo) (v:Value):
  mR w0 lo (w4.setCell p v) al n Z ao2:=fun h0=>by
 obtain ⟨b,e,h1,h2,h3,h4⟩:=h h0
 have s2:=b2.size
 have s3:=b3.size
 have s4:=g4.size
 refine ⟨b,e,h1,by simp [World.setCell];omega, ?_,fun j hj=> ?_⟩
 ·rcases hat with e1 | e1
  ·rw [e1];exact h3
  ·rw [e1];intro e2;have:=Option.some.inj e2;omega
 ·obtain ⟨u,h5,h6⟩:=h4 j hj
  refine ⟨u, ?_,h6⟩
  rw [←h5]
  refine World.cell?_of_block ?_
  rw [Below.heap_setCell _ _ _ _ (by simp;omega),g4.block b ab (fun e=>h3 e.symm),b3.block b ab,b2.block b h2]
theorem mR.at_ {w0 w:World} {lo n:Nat} {al ao:Option Addr} {Z:List (List Int)} (h:mR w0 lo w al n Z ao) (hb:Below w0.heap.size w0 w) {k:Nat} (hk:k < n):∃b a1 n1 c1,al=some ⟨b,0,none⟩∧w.cell? ⟨b,k,none⟩=some (.slice a1 n1 c1)∧cW w a1 n1 (aT Z k):=by
 obtain ⟨b,e,_,_,_,h4⟩:=h ab
 obtain ⟨u,h5,a1,n1,c1,rfl,h6⟩:=h4 k hk
 exact ⟨b,a1,n1,c1,e,h5,h6.below hb⟩
theorem zK (zss:List (List Int)):(sd zss).length≤zss.length:=List.length_filter_le _ _
def wj (Z:List (List Int)):Int:=if (sd Z).length≤24 then 0 else 3
def vL (N:Int) (Z:List (List Int)):di:=if (sd Z).length≤24 then (N,sd Z) else (0, [])
theorem ko (N:Nat) (hN:N≤5) (ap aw:Option Addr) (np cp nw cw:Nat) (R W:List (List Int)) (w:World) (h1:ep w ap np R) (h2:ep w aw nw W) (hR:np≤24) (hW:nw≤24) (hl:∀z∈R ++ W,z.length≤1000):
  Calls Try.prog 28 #[.agg #[.int .i64 N, .slice ap np cp], .slice aw nw cw] w fun e w'=>∃v,e= .returned (.tuple #[v, .int .i64 (wj (R ++ W))])∧oN 2 24 w' w.heap.size w'.heap.size v (vL N (R ++ W))∧Below w.heap.size w w':=by
 have hl1:=h1.1
 have hl2:=h2.1
 go_enter Try.func28,Try.ntmps28
 go_wp2_with fail
 obtain ⟨w1,hw1⟩:∃w1,w1=w.alloc (.cells #[.int .i64 N, .slice ap np cp] 34):=⟨_,rfl⟩
 have hs1:w1.heap.size=w.heap.size + 1:=by rw [hw1];simp
 have hb1:Below w.heap.size w w1:=by rw [hw1];exact below_alloc1 _ _
 rw [←hw1]
 have r0:dQ ((w1.alloc (.cells #[.int .i64 0, .slice none 0 0] 34)).alloc (.cells #[.int .i64 N, .slice none 0 0] 34)) w1.heap.size 34 #[.int .i64 0, .slice none 0 0]:=(bS rfl).alloc _
 have r1:dQ ((w1.alloc (.cells #[.int .i64 0, .slice none 0 0] 34)).alloc (.cells #[.int .i64 N, .slice none 0 0] 34)) (w1.heap.size + 1) 34 #[.int .i64 N, .slice none 0 0]:=bS (by simp)
 rw [←hs1]
 have k0:(((w1.alloc (.cells #[.int .i64 0, .slice none 0 0] 34)).alloc (.cells #[.int .i64 N, .slice none 0 0] 34)).alloc (.cells #[.slice ap np cp, .slice aw nw cw] 25)).cell? ⟨w1.heap.size + 1 + 1,0,none⟩=some (.slice ap np cp):=(bS (by simp)).cell 0
 have k1:(((w1.alloc (.cells #[.int .i64 0, .slice none 0 0] 34)).alloc (.cells #[.int .i64 N, .slice none 0 0] 34)).alloc (.cells #[.slice ap np cp, .slice aw nw cw] 25)).cell? ⟨w1.heap.size + 1 + 1,1,none⟩=some (.slice aw nw cw):=(bS (by simp)).cell 1
 have hb2:Below w1.heap.size w1 (((w1.alloc (.cells #[.int .i64 0, .slice none 0 0] 34)).alloc (.cells #[.int .i64 N, .slice none 0 0] 34)).alloc (.cells #[.slice ap np cp, .slice aw nw cw] 25)):=(below_alloc2 _ _ _).alloc (by simp;omega) _
 refine (y9 w _ 2 ap aw np cp nw cw R W _ k0 k1 (hb1.trans (hb2.mono ab)) h1 h2 ab ab).mono ?_
 rintro e wq ⟨al,cl,rfl,hz,bq⟩
 have bq2:=bc bq hb2
 have r2:=(r0.alloc (.cells #[.slice ap np cp, .slice aw nw cw] 25)).bm bq
 have r3:=(r1.alloc (.cells #[.slice ap np cp, .slice aw nw cw] 25)).bm bq
 have hsq:=bq.size
 have hz2:=hz.start
 obtain ⟨Z,hZ⟩:∃Z,Z=R ++ W:=⟨_,rfl⟩
 rw [←hZ] at hz2 hl
 have hlz:Z.length=np + nw:=by rw [hZ,List.length_append];omega
 have HZ:=Lib.hid hZ
 have hn48:np + nw≤48:=by omega
 have hcast:((np:Int) + (nw:Int))=((np + nw:Nat):Int):=by omega
 clear hz h1 h2 hl1 hl2 k0 k1 r0 r1 hb2 bq hw1 hZ
 generalize np + nw=n at *
 have HW1:=Lib.hid (And.intro hs1 hb1)
 have HL:=Lib.hid (And.intro hl hlz)
 clear hl hlz hb1 hs1
 have NS:sd (Z.take 0)= []:=rfl
 go_wp2_with fail
 go_loopw [18] (fun i wr=>∃(k m:Nat) (ao':Option Addr) (c':Nat) (us:List Value),i= .int .i64 k∧k≤n∧mI w1 wr N ao' m c' us (sd (Z.take k))∧mR w (w1.heap.size + 2) wr al n Z ao') (fun i _=>n - (intOf i).toNat)
 case atStart=>exact ⟨0,0,none,0, [],rfl,Nat.zero_le _,⟨r2,r3,by rw [NS];exact eT.dD (Own.iX _ _ _) (fun g hg=>by cases hg),by simp at hsq ⊢;omega,bq2,ab⟩,fun h0=>by obtain ⟨b,e,h1,h2⟩:=hz2 h0;exact ⟨b,e,by simp at h1;omega,h2⟩⟩
 case round=>
  obtain ⟨k,m,ao',c',us,rfl,hk,st,hh⟩:=hrel
  clear r2 r3 hz2 bq2 hsq NS
  have hbw:Below w.heap.size w wr:=HW1.out.2.trans (st.below.mono (by have:=HW1.out.1;omega))
  by_cases hlt:k < n
  ·obtain ⟨b,a1,n1,c1,rfl,hc,hi⟩:=hh.at_ hbw hlt
   have x0:=st.box.cell 0
   have x1:=st.box.cell 1
   have f1:=st.box.frozen 1
   simp at x0 x1
   have ST:=Lib.hid st
   have HH:=Lib.hid hh
   have HT:=Lib.hid (wb (zss:=Z) (k:=k) (by have:=HL.out.2;omega))
   have hil:=hi.1
   have hmem:aT Z k∈Z:=by rw [eF (by have:=HL.out.2;omega)];exact List.getElem_mem _
   have hn1:n1≤1000:=by have:=HL.out.1 _ hmem;omega
   have hm:m + 1≤1000:=by have h1:=st.row.len;have h2:=zK (Z.take k);rw [List.length_take] at h2;omega
   have HM:=Lib.hid hm
   have hI:cW wr.drew a1 n1 (aT Z k):=hi.below (db _)
   have HI:=Lib.hid hI
   have hsz:=st.size
   clear st hh hi hmem hm hbw hI
   by_cases h0:0 < n1
   ·have HO:Hid ((if 0 < (aT Z k).length then [aT Z k] else [])= [aT Z k]):=Lib.hid (if_pos ab)
    clear hil
    go_wp2_with fail
    go_region_law (first | (refine ka (o:=⟨some 30,_,_,_,_,_⟩) kH rfl (.tmp 26) (.tmp 29) rfl (w1.heap.size + 2) ao' m c' us rfl (ST.out.row.own.below B3) (.slice a2 n1 c2) w2.heap.size 1 rfl ((bS rfl).cell 0) rfl (by have:=HM.out;omega) (by have:=B3.size;simp at *;omega) ?_;intro ao2 c3 w4 o4 g4 hat;have B4S:Below (w1.heap.size + 2) wr w4:=(B3S.grown g4 (by have:=B3.size;omega) (fun g hg=>(ST.out.row.own.lt g hg).1));have x4:w4.cell? ⟨w1.heap.size + 1,1,none⟩=some (.slice ao' m c'):=(ST.out.box.below B4S ab).cell 1;have f4:w4.frozen? ⟨w1.heap.size + 1,1,none⟩=false:=(ST.out.box.below B4S ab).frozen 1) | (go_simp;go_at_call 45;refine (tG a1 n1 c1 (aT Z k) _ HI.out ab).mono ?_;rintro e w2 ⟨a2,c2,rfl,o1,b1⟩;have B2:Below wr.heap.size wr w2:=bc b1 (db _);have B2S:=B2.mono hsz;have B3:Below wr.heap.size wr (w2.alloc (.cells #[.slice a2 n1 c2] 24)):=B2.alloc B2.size _;have B3S:=B3.mono hsz;have x2:w2.cell? ⟨w1.heap.size + 1,1,none⟩=some (.slice ao' m c'):=(ST.out.box.below B2S ab).cell 1;have x3:(w2.alloc (.cells #[.slice a2 n1 c2] 24)).cell? ⟨w1.heap.size + 1,1,none⟩=some (.slice ao' m c'):=(ST.out.box.below B3S ab).cell 1))
    all_goals
     have st2:=ST.out.push HM.out B2 (o1.mono (Nat.le_of_eq (by rfl))) (below_alloc1 _ _) o4 g4 hat
     have hh2:=HH.out.push B2 (below_alloc1 _ _) g4 hat (p:=⟨w1.heap.size + 1,1,none⟩) (by simp) (.slice ao2 (m + 1) c3)
     have hs4:=B4S.size
     generalize w4.setCell ⟨w1.heap.size + 1,1,none⟩ (.slice ao2 (m + 1) c3)=wf at *
     clear B2 B2S B3 B3S B4S x0 x1 x2 x3 x4 f1 f4 o1 b1 o4 g4 hat ST HH
     go_wp2_with fail
     go_roundw
     case rel=>exact ⟨k + 1,m + 1,ao2,c3,_,by go_num,ab,by rw [HT.out,HO.out];exact st2,hh2⟩
     case measure=>simp [intOf];omega
   ·have HO:Hid ((if 0 < (aT Z k).length then [aT Z k] else [])= []):=Lib.hid (if_neg ab)
    obtain rfl:n1=0:=by omega
    clear hil
    go_wp2_with fail
    go_roundw
    case rel=>exact ⟨k + 1,m,ao',c',us,by go_num,ab,by rw [HT.out,HO.out,List.append_nil];exact ST.out,HH.out⟩
    case measure=>simp [intOf];omega
  ·obtain rfl:k=n:=by omega
   have x0:=st.box.cell 0
   have x1:=st.box.cell 1
   have y0:=st.res.cell 0
   have y1:=st.res.cell 1
   have f0:=st.res.frozen 0
   have f1:=st.res.frozen 1
   simp at x0 x1 y0 y1
   have hlen:=st.row.len
   have hTZ:Z.take k=Z:=List.take_of_length_le (by have:=HL.out.2;omega)
   rw [hTZ] at st hlen
   have ST:=Lib.hid st
   have HLEN:=Lib.hid hlen
   clear st hh hbw hlen
   by_cases h24:m≤24
   ·have c24:decide ((m:Int) > 24)=false:=by simp;omega
    have h24z:(sd Z).length≤24:=by rw [HLEN.out];exact h24
    have hK:wj (R ++ W)=0:=by rw [←HZ.out];unfold wj;rw [if_pos h24z]
    have hV:vL N (R ++ W)=((N:Int),sd Z):=by rw [←HZ.out];unfold vL;rw [if_pos h24z]
    have HK:=Lib.hid (And.intro hK hV)
    clear hK hV h24z
    go_wp2_with fail
    have st2:=ST.out.done
    generalize (wr.setCell ⟨w1.heap.size,0,none⟩ (.int .i64 N)).setCell ⟨w1.heap.size,1,none⟩ (.slice ao' m c')=wf at *
    have e0:=st2.1.cell 0
    have e1:=st2.1.cell 1
    simp at e0 e1
    have hs1:=HW1.out.1
    refine bodyPost_ret (v:= .tuple #[.agg #[.int .i64 N, .slice ao' m c'], .int .i64 0]) (by simp [results,Try.f28,go_sem,e0,e1]) rfl ⟨_,by rw [HK.out.1], ?_,HW1.out.2.trans (st2.2.2.mono ab)⟩
    rw [HK.out.2]
    exact ⟨ao',m,c',us,rfl,st2.2.1.mono ab (Nat.le_refl _)⟩
   ·have c24:decide ((m:Int) > 24)=true:=by simp;omega
    have h24z:¬(sd Z).length≤24:=by rw [HLEN.out];exact h24
    have hK:wj (R ++ W)=3:=by rw [←HZ.out];unfold wj;rw [if_neg h24z]
    have hV:vL N (R ++ W)=(0, []):=by rw [←HZ.out];unfold vL;rw [if_neg h24z]
    have HK:=Lib.hid (And.intro hK hV)
    clear hK hV h24z
    go_wp2_with fail
    have st2:=((ST.out.res.fz 0 (.int .i64 0)).fz 1 (.slice none 0 0))
    have hbf:=(ST.out.below.setCell (p:=⟨w1.heap.size,0,none⟩) (by simp) (.int .i64 0)).setCell (p:=⟨w1.heap.size,1,none⟩) (by simp) (.slice none 0 0)
    have hsf:w1.heap.size + 2≤((wr.setCell ⟨w1.heap.size,0,none⟩ (.int .i64 0)).setCell ⟨w1.heap.size,1,none⟩ (.slice none 0 0)).heap.size:=by have:=ST.out.size;simp [World.setCell];omega
    generalize (wr.setCell ⟨w1.heap.size,0,none⟩ (.int .i64 0)).setCell ⟨w1.heap.size,1,none⟩ (.slice none 0 0)=wf at *
    have e0:=st2.cell 0
    have e1:=st2.cell 1
    simp at e0 e1
    have hs1:=HW1.out.1
    refine bodyPost_ret (v:= .tuple #[.agg #[.int .i64 0, .slice none 0 0], .int .i64 3]) (by simp [results,Try.f28,go_sem,e0,e1]) rfl ⟨_,by rw [HK.out.1], ?_,HW1.out.2.trans (hbf.mono ab)⟩
    rw [HK.out.2]
    exact ⟨none,0,0, [],rfl,eT.dD (Own.iX _ _ _) (fun g hg=>by cases hg)⟩
end Go.Proofs.Ytfpcfckocmmcnaa
namespace Go.Proofs.Ytfpcfckocmmcnaa
open Go.RowKit
def kT (d:di) (ws:List (List Int)):di:=if dP d ws=true then vL d.1 (d.2 ++ ws) else (0, [])
def lu (d:di) (ws:List (List Int)):Int:=if dP d ws=true then wj (d.2 ++ ws) else 1
theorem iD {d:di} {ws:List (List Int)} (h:dP d ws=true):dN d=true∧dT d.1 0 ws=true:=by
 unfold dP at h;simpa using h
theorem kZ {d:di} (h:dN d=true):d.2.length≤24∧sd d.2=d.2∧∀z∈d.2,z.length≤64:=by
 unfold dN at h
 simp only [Bool.and_eq_true,decide_eq_true_eq,List.all_eq_true] at h
 refine ⟨h.1.2,List.filter_eq_self.2 fun z hz=>by have:=h.2 z hz;simp;omega,fun z hz=> ?_⟩
 have:=(h.2 z hz).1
 unfold cY at this
 simp only [Bool.and_eq_true,decide_eq_true_eq] at this
 exact this.1
theorem lL {g:Int} {k:Nat} {ws:List (List Int)} (h:dT g k ws=true):ws.length≤24∧∀z∈ws,z.length≤64:=by
 unfold dT at h
 simp only [Bool.and_eq_true,decide_eq_true_eq,List.all_eq_true] at h
 refine ⟨h.1,fun z hz=> ?_⟩
 have:=(h.2 z hz).1
 unfold cY at this
 simp only [Bool.and_eq_true,decide_eq_true_eq] at this
 exact this.1
theorem Eo (R W:List (List Int)):sd (R ++ W)=sd R ++ sd W:=List.filter_append ..
theorem y4 {zss:List (List Int)} {k:Nat} (h:∀zs∈zss,zs.length≤k):lg zss≤zss.length * k:=by
 induction zss with
 | nil=>simp [lg]
 | cons z t ih=>
  have h1:=h z (by simp)
  have h2:=ih fun x hx=>h x (by simp [hx])
  simp [lg,Nat.add_mul] at *
  omega
section
variable {D:Type} {Ow1:World→Value→D→Prop} {w w':World} {lo hi E:Nat} {ao:Option Addr} {n c:Nat} {us:List Value} {ds:List D}
theorem eT.Il (I:tN Ow1) (h:eT Ow1 w lo hi E ao n c us ds) (hs:∀g,(bk ao=some g∨∃(j:Nat) (u:Value),us[j]? =some u∧u.ownBlock=some g)→w'.heap[g]? =w.heap[g]?):eT Ow1 w' lo hi E ao n c us ds:=
 {own:=h.own.same fun g hg=>hs g (.inl hg),top:=h.top,len:=h.len,rng:=h.rng,out:=h.out,apart:=h.apart,el:=fun j u d hu hd=>I.loc (h.el j u d hu hd) fun g hg=>hs g (.inr ⟨j,u,hu,hg⟩) }
end
structure oO (w wr:World) (rb bx lo:Nat) (N:Int) (ao:Option Addr) (m c:Nat) (us:List Value) (ds:List (List Int)):Prop where
 res:dQ wr rb 34 #[.int .i64 0, .slice none 0 0]
 box:dQ wr bx 34 #[.int .i64 N, .slice ao m c]
 row:eT (jV 2) wr lo wr.heap.size 24 ao m c us ds
 wV:bk ao≠some bx∧∀(j:Nat) (u:Value),us[j]? =some u→u.ownBlock≠some bx
 at_:w.heap.size≤rb∧rb < lo∧w.heap.size≤bx∧rb≠bx∧lo≤wr.heap.size
 below:Below w.heap.size w wr
 few:m≤1000
theorem oO.push {w wr w2 w3 w4:World} {rb bx lo m c' n1 c1 c2:Nat} {N:Int} {ao' a1 ao2:Option Addr} {us:List Value} {ds:List (List Int)} {zs:List Int} (st:oO w wr rb bx lo N ao' m c' us ds) (hm:m + 1≤1000)
  (b2:Below wr.heap.size wr w2) (o1:Own w2 wr.heap.size 2 a1 n1 c1 (zs.map (Value.int .i64))) (b3:Below w2.heap.size w2 w3) (o4:Own w4 lo 24 ao2 (m + 1) c2 (us ++ [.slice a1 n1 c1]))
  (g4:w3.grownBy w4 (bk ao')) (hat:bk ao2=bk ao'∨bk ao2=some w3.heap.size):
  oO w (w4.setCell ⟨bx,1,none⟩ (.slice ao2 (m + 1) c2)) rb bx lo N ao2 (m + 1) c2 (us ++ [.slice a1 n1 c1]) (ds ++ [zs]):=by
 obtain ⟨h1,h2,h3,h4,h5⟩:=st.at_
 have hR:=tC st.row h5 b2 o1 b3 o4 g4 hat
 have s2:=b2.size
 have s3:=b3.size
 have s4:=g4.size
 have hbx:=st.box.lt
 have B4:Below w.heap.size w w4:=(st.below.trans ((b2.trans (b3.mono s2)).mono ab)).grown g4 ab (fun g hg=>by have:=(st.row.own.lt g hg).1;omega)
 have hh:(w4.setCell ⟨bx,1,none⟩ (.slice ao2 (m + 1) c2)).heap.size=w4.heap.size:=by simp [World.setCell]
 have k:∀g,g < wr.heap.size→bk ao'≠some g→w4.heap[g]? =wr.heap[g]? :=fun g hg hne=>by
  rw [g4.block g ab (fun e=>hne e.symm),b3.block g ab,b2.block g hg]
 have hf:bk ao2≠some bx∧∀(j:Nat) (u:Value),(us ++ [.slice a1 n1 c1])[j]? =some u→u.ownBlock≠some bx:=by
  refine ⟨?_,fun j u hj=> ?_⟩
  ·rcases hat with e | e
   ·rw [e];exact st.wV.1
   ·rw [e];intro e2;have:=Option.some.inj e2;omega
  ·rw [List.getElem?_append] at hj
   split at hj
   ·exact st.wV.2 j u hj
   ·have hj0:j - us.length=0:=by
     rcases Nat.eq_zero_or_pos (j - us.length) with h | h
     ·exact h
     ·rw [List.getElem?_eq_none (by simp;omega)] at hj;cases hj
    rw [hj0] at hj
    obtain rfl:Value.slice a1 n1 c1=u:=by simpa using hj
    rw [bN]
    intro e;have:=(o1.lt _ e).1;omega
 refine ⟨?_, ?_, ?_,hf,⟨h1,h2,h3,h4,by rw [hh];omega⟩,B4.setCell (by simp;omega) _,hm⟩
 ·refine dQ.wV ?_ (by simp;omega) _
  unfold dQ
  rw [k rb ab (fun e=>by have:=(st.row.own.lt _ e).1;omega)]
  exact st.res
 ·have:dQ w4 bx 34 #[.int .i64 N, .slice ao' m c']:=by unfold dQ;rw [k bx hbx st.wV.1];exact st.box
  simpa using this.fz 1 (.slice ao2 (m + 1) c2)
 ·rw [hh]
  refine hR.Il (cJ _) fun g hg=>Below.heap_setCell _ _ _ _ ?_
  rcases hg with hg | ⟨j,u,hj,hg⟩
  ·intro e;exact hf.1 (by simp at e;rw [←e];exact hg)
  ·intro e;exact hf.2 j u hj (by simp at e;rw [←e];exact hg)
theorem oO.done {w wr:World} {rb bx lo m c':Nat} {N:Int} {ao':Option Addr} {us:List Value} {ds:List (List Int)} (st:oO w wr rb bx lo N ao' m c' us ds) (x:Int) (y:Value):
  dQ ((wr.setCell ⟨rb,0,none⟩ (.int .i64 x)).setCell ⟨rb,1,none⟩ y) rb 34 #[.int .i64 x,y]∧
  eT (jV 2) ((wr.setCell ⟨rb,0,none⟩ (.int .i64 x)).setCell ⟨rb,1,none⟩ y) lo ((wr.setCell ⟨rb,0,none⟩ (.int .i64 x)).setCell ⟨rb,1,none⟩ y).heap.size 24 ao' m c' us ds∧
  Below w.heap.size w ((wr.setCell ⟨rb,0,none⟩ (.int .i64 x)).setCell ⟨rb,1,none⟩ y):=by
 obtain ⟨h1,h2,h3,h4,h5⟩:=st.at_
 have hh:((wr.setCell ⟨rb,0,none⟩ (.int .i64 x)).setCell ⟨rb,1,none⟩ y).heap.size=wr.heap.size:=by simp [World.setCell]
 refine ⟨?_, ?_,(st.below.setCell (by simp;omega) _).setCell (by simp;omega) _⟩
 ·have:=(st.res.fz 0 (.int .i64 x)).fz 1 y
  simpa using this
 ·rw [hh]
  exact st.row.same (cJ _) fun g h1 _ _=>by rw [Below.heap_setCell _ _ _ _ (by simp;omega),Below.heap_setCell _ _ _ _ (by simp;omega)]
theorem oO.FP {w w1 w2:World} {rb n2 c2:Nat} {N:Int} {a2:Option Addr} {us:List Value} {ds:List (List Int)} (k1:dQ w1 rb 34 #[.int .i64 0, .slice none 0 0]) (hb:Below w.heap.size w w1) (h1:w.heap.size≤rb)
  (b2:Below w1.heap.size w1 w2) (o2:eT (jV 2) w2 w1.heap.size w2.heap.size 24 a2 n2 c2 us ds) (hf:n2≤1000):oO w (w2.alloc (.cells #[.int .i64 N, .slice a2 n2 c2] 34)) rb w2.heap.size w1.heap.size N a2 n2 c2 us ds:=by
 have hs:=b2.size
 have hl:=k1.lt
 refine ⟨(k1.bm b2).alloc _,bS rfl,(o2.below (cJ _) (below_alloc1 _ _)).mono (Nat.le_refl _) (by simp),⟨fun e=>by have:=o2.top _ e;omega,fun j u hj e=>by have:=(o2.rng j u hj _ e).2;omega⟩,⟨h1,hl,by have:=hb.size;omega,ab,by simp;omega⟩,(hb.trans (b2.mono hb.size)).alloc (by have:=hb.size;omega) _,hf⟩
theorem oO.F1 {w w1 w2:World} {rb lo n2 c2:Nat} {N:Int} {a2:Option Addr} {us:List Value} {ds:List (List Int)} (k1:dQ w1 rb 34 #[.int .i64 0, .slice none 0 0]) (hb:Below w.heap.size w w1) (h1:w.heap.size≤rb)
  (b2:Below (w1.alloc (.cells #[.int .i64 0, .slice none 0 0] 34)).heap.size (w1.alloc (.cells #[.int .i64 0, .slice none 0 0] 34)) w2) (hlo:lo=w1.heap.size + 1) (o2:eT (jV 2) w2 lo w2.heap.size 24 a2 n2 c2 us ds) (hf:n2≤1000):
  oO w ((w2.setCell ⟨w1.heap.size,0,none⟩ (.int .i64 N)).setCell ⟨w1.heap.size,1,none⟩ (.slice a2 n2 c2)) rb w1.heap.size (w1.heap.size + 1) N a2 n2 c2 us ds:=by
 subst hlo
 simp only [World.alloc,Array.size_push] at b2
 have b2:Below (w1.heap.size + 1) (w1.alloc (.cells #[.int .i64 0, .slice none 0 0] 34)) w2:=b2
 have hs:=b2.size
 simp at hs
 have hl:=k1.lt
 have hbs:=hb.size
 have hh:((w2.setCell ⟨w1.heap.size,0,none⟩ (.int .i64 N)).setCell ⟨w1.heap.size,1,none⟩ (.slice a2 n2 c2)).heap.size=w2.heap.size:=by simp [World.setCell]
 have kx:dQ w2 w1.heap.size 34 #[.int .i64 0, .slice none 0 0]:=(bS (w:=w1) rfl).below b2 ab
 refine ⟨(((k1.alloc _).below b2 ab).wV (by simp;omega) _).wV (by simp;omega) _,by simpa using (kx.fz 0 (.int .i64 N)).fz 1 (.slice a2 n2 c2), ?_,⟨fun e=>by have:=(o2.own.lt _ e).1;omega,fun j u hj e=>by have:=(o2.rng j u hj _ e).1;omega⟩,⟨h1,ab,ab,ab,by rw [hh];omega⟩,((((hb.trans ((below_alloc1 w1 _).mono hbs)).trans (b2.mono ab)).setCell (by simp;omega) _).setCell (by simp;omega) _),hf⟩
 rw [hh]
 exact o2.same (cJ _) fun g h1 _ _=>by rw [Below.heap_setCell _ _ _ _ (by simp;omega),Below.heap_setCell _ _ _ _ (by simp;omega)]
theorem mg {v:Value} {d:di} (ao:Option Addr) (n c:Nat) (ws:List (List Int)) (w:World) (h:wZ w v d) (h':ep w ao n ws):
  Calls Try.prog 32 #[v, .slice ao n c] w fun e w'=>∃v,e= .returned (.tuple #[v, .int .i64 (lu d ws)])∧oN 2 24 w' w.heap.size w'.heap.size v (kT d ws)∧Below w.heap.size w w':=by
 cases hp:dP d ws with
 | false=>
  have hC:lu d ws=1:=by unfold lu;rw [hp];rfl
  have hR:kT d ws=(0, []):=by unfold kT;rw [hp];rfl
  have hW:eN d ws=1:=by unfold eN;rw [hp];rfl
  obtain ⟨ro,rn,rc,rfl,hr⟩:=h
  go_enter Try.func32,Try.ntmps32
  have hb:=below_alloc2 w (.cells #[.int .i64 d.1, .slice ro rn rc] 34) (.cells #[.int .i64 0, .slice none 0 0] 34)
  have kb:dQ ((w.alloc (.cells #[.int .i64 d.1, .slice ro rn rc] 34)).alloc (.cells #[.int .i64 0, .slice none 0 0] 34)) (w.heap.size + 1) 34 #[.int .i64 0, .slice none 0 0]:=bS (by simp)
  have h1:wZ ((w.alloc (.cells #[.int .i64 d.1, .slice ro rn rc] 34)).alloc (.cells #[.int .i64 0, .slice none 0 0] 34)) (.agg #[.int .i64 d.1, .slice ro rn rc]) d:=⟨ro,rn,rc,rfl,hr.below hb⟩
  have h2:=h'.below hb
  have HP:=Lib.hid (And.intro hC (And.intro hR hW))
  clear hC hR hW hr h'
  go_wp2_with fail
  refine (nO ao n c ws _ h1 h2).mono ?_
  rintro e w1 ⟨rfl,b1⟩
  rw [HP.out.2.2]
  have k1:=kb.bm b1
  have y0:=k1.cell 0
  have y1:=k1.cell 1
  have f0:=k1.frozen 0
  have f1:=k1.frozen 1
  simp at y0 y1
  have B1:=bc b1 hb
  clear h1 h2 hb kb b1
  go_wp2_with fail
  have st2:=((k1.fz 0 (.int .i64 0)).fz 1 (.slice none 0 0))
  have hbf:=(B1.setCell (p:=⟨w.heap.size + 1,0,none⟩) (by simp) (.int .i64 0)).setCell (p:=⟨w.heap.size + 1,1,none⟩) (by simp) (.slice none 0 0)
  generalize (w1.setCell ⟨w.heap.size + 1,0,none⟩ (.int .i64 0)).setCell ⟨w.heap.size + 1,1,none⟩ (.slice none 0 0)=wf at *
  have e0:=st2.cell 0
  have e1:=st2.cell 1
  simp at e0 e1
  refine bodyPost_ret (v:= .tuple #[.agg #[.int .i64 0, .slice none 0 0], .int .i64 1]) (by simp [results,Try.f32,go_sem,e0,e1]) rfl ⟨_,by rw [HP.out.1], ?_,hbf⟩
  rw [HP.out.2.1]
  exact ⟨none,0,0, [],rfl,eT.dD (Own.iX _ _ _) (fun g hg=>by cases hg)⟩
 | true=>
  have hC:lu d ws=wj (d.2 ++ ws):=by unfold lu;rw [hp];rfl
  have hR:kT d ws=vL d.1 (d.2 ++ ws):=by unfold kT;rw [hp];rfl
  have hW:eN d ws=0:=by unfold eN;rw [hp];rfl
  obtain ⟨hp1,hp2⟩:=iD hp
  obtain ⟨q1,q2,q3⟩:=kZ hp1
  obtain ⟨q4,q5⟩:=lL hp2
  have hll:d.2.length + lg d.2≤1048576:=by have:=y4 q3;omega
  obtain ⟨ro,rn,rc,rfl,hr⟩:=h
  go_enter Try.func32,Try.ntmps32
  have HLL:=Lib.hid hll
  have hb:=below_alloc2 w (.cells #[.int .i64 d.1, .slice ro rn rc] 34) (.cells #[.int .i64 0, .slice none 0 0] 34)
  have kp:dQ ((w.alloc (.cells #[.int .i64 d.1, .slice ro rn rc] 34)).alloc (.cells #[.int .i64 0, .slice none 0 0] 34)) w.heap.size 34 #[.int .i64 d.1, .slice ro rn rc]:=(bS rfl).alloc _
  have kb:dQ ((w.alloc (.cells #[.int .i64 d.1, .slice ro rn rc] 34)).alloc (.cells #[.int .i64 0, .slice none 0 0] 34)) (w.heap.size + 1) 34 #[.int .i64 0, .slice none 0 0]:=bS (by simp)
  have h1:wZ ((w.alloc (.cells #[.int .i64 d.1, .slice ro rn rc] 34)).alloc (.cells #[.int .i64 0, .slice none 0 0] 34)) (.agg #[.int .i64 d.1, .slice ro rn rc]) d:=⟨ro,rn,rc,rfl,hr.below hb⟩
  have h2:=h'.below hb
  have HP:=Lib.hid (And.intro hC (And.intro hR hW))
  have HR:=Lib.hid hr
  have HI:=Lib.hid h'
  have hn:=h'.1
  have hrn:=hr.1
  clear hC hR hW hr h'
  go_wp2_with fail
  refine (nO ao n c ws _ h1 h2).mono ?_
  rintro e w1 ⟨rfl,b1⟩
  rw [HP.out.2.2]
  have k0:=kp.bm b1
  have k1:=kb.bm b1
  have z0:=k0.cell 0
  have z1:=k0.cell 1
  simp at z0 z1
  have B1:=bc b1 hb
  have s1:w.heap.size + 2≤w1.heap.size:=by have:=b1.size;simp at this;omega
  have K0:=Lib.hid k0
  have K1:=Lib.hid k1
  clear h1 h2 hb kb b1 kp k0 k1
  go_wp2_with fail
  rename_i K hK
  have tail:∀(bx lo:Nat) (wf:World) (a2:Option Addr) (n2 c2:Nat) (us2:List Value),oO w wf (w.heap.size + 1) bx lo d.1 a2 n2 c2 us2 d.2→K { tmps:= #[.agg #[.int .i64 d.1, .slice ro rn rc], .slice ao n c, .pointer (some ⟨w.heap.size,0,none⟩),undef, .pointer (some ⟨w.heap.size + 1,0,none⟩), .int .i64 0, .int .i64 0, .pointer (some ⟨bx,0,none⟩),undef, .agg #[.int .i64 d.1, .slice ro rn rc], .slice ao n c, .int .i64 0, .int .i64 0, .bool false,undef,undef, .pointer (some ⟨w.heap.size,0,none⟩), .int .i64 d.1, .pointer (some ⟨w.heap.size,1,none⟩), .slice ro rn rc, .slice a2 n2 c2, .agg #[.int .i64 d.1, .slice a2 n2 c2],undef,undef,undef,undef,undef,undef,undef,undef,undef,undef,undef,undef,undef,undef,undef,undef,undef,undef,undef,undef,undef,undef,undef,undef,undef,undef,undef,undef],defers:= [] } wf:=by
   intro bx lo wf a2 n2 c2 us2 st0
   refine hK _ _ ?_
   clear hK z0 z1 B1 s1 K0 K1
   go_wp2_with fail
   go_loopw [8] (fun i wr=>∃(k m:Nat) (ao':Option Addr) (c':Nat) (us:List Value),i= .int .i64 k∧k≤n∧oO w wr (w.heap.size + 1) bx lo d.1 ao' m c' us (d.2 ++ sd (ws.take k))) (fun i _=>n - (intOf i).toNat)
   case atStart=>exact ⟨0,n2,a2,c2,us2,rfl,Nat.zero_le _,by rw [show sd (ws.take 0)= [] from rfl,List.append_nil];exact st0⟩
   case round=>
    obtain ⟨k,m,ao',c',us,rfl,hk,st⟩:=hrel
    clear st0
    by_cases hlt:k < n
    ·obtain ⟨b,off,a1,n1,c1,rfl,hc,hi⟩:=(HI.out.below st.below).at_ hlt
     have x0:=st.box.cell 0
     have x1:=st.box.cell 1
     have f1:=st.box.frozen 1
     simp at x0 x1
     have ST:=Lib.hid st
     have HT:=Lib.hid (wb (zss:=ws) (k:=k) ab)
     have hil:=hi.1
     have hmem:aT ws k∈ws:=by rw [eF ab];exact List.getElem_mem _
     have hn1:n1≤64:=by have:=q5 _ hmem;omega
     have hm:m + 1≤1000:=by have h1:=st.row.len;have h2:=zK (ws.take k);rw [List.length_take] at h2;rw [List.length_append] at h1;omega
     have HM:=Lib.hid hm
     have hI:cW wr.drew a1 n1 (aT ws k):=hi.below (db _)
     have HII:=Lib.hid hI
     have hpos:=st.at_
     have hbx:=st.box.lt
     clear st hi hmem hm hI
     by_cases h0:0 < n1
     ·have HO:Hid ((if 0 < (aT ws k).length then [aT ws k] else [])= [aT ws k]):=Lib.hid (if_pos ab)
      clear hil
      go_wp2_with fail
      go_region_law (first | (refine ka (o:=⟨some 42,_,_,_,_,_⟩) kH rfl (.tmp 35) (.tmp 41) rfl lo ao' m c' us rfl (ST.out.row.own.below B3) (.slice a2' n1 c2') w2.heap.size 1 rfl ((bS rfl).cell 0) rfl (by have:=HM.out;omega) (by have:=B3.size;simp at *;omega) ?_;intro ao2 c3 w4 o4 g4 hat;have B4:Below lo wr w4:=((B3.mono hpos.2.2.2.2).grown g4 (by have:=B3.size;omega) (fun g hg=>(ST.out.row.own.lt g hg).1));have k4:dQ w4 bx 34 #[.int .i64 d.1, .slice ao' m c']:=(g4.block bx (by have:=B3.size;omega) (fun e=>ST.out.wV.1 e.symm)).trans (ST.out.box.bm B3);have x4:w4.cell? ⟨bx,1,none⟩=some (.slice ao' m c'):=k4.cell 1;have f4:w4.frozen? ⟨bx,1,none⟩=false:=k4.frozen 1) | (go_simp;go_at_call 64;refine (qf a1 n1 c1 (aT ws k) _ HII.out ab).mono ?_;rintro e w2 ⟨a2',c2',rfl,o1,b1⟩;have B2:Below wr.heap.size wr w2:=bc b1 (db _);have B3:Below wr.heap.size wr (w2.alloc (.cells #[.slice a2' n1 c2'] 24)):=B2.alloc B2.size _;have x2:w2.cell? ⟨bx,1,none⟩=some (.slice ao' m c'):=(ST.out.box.bm B2).cell 1;have x3:(w2.alloc (.cells #[.slice a2' n1 c2'] 24)).cell? ⟨bx,1,none⟩=some (.slice ao' m c'):=(ST.out.box.bm B3).cell 1))
      all_goals
       have st2:=ST.out.push HM.out B2 (o1.mono (Nat.le_of_eq (by rfl))) (below_alloc1 _ _) o4 g4 hat
       have hs4:=B4.size
       generalize w4.setCell ⟨bx,1,none⟩ (.slice ao2 (m + 1) c3)=wf2 at *
       clear B2 B3 B4 x0 x1 x2 x3 x4 k4 f1 f4 o1 b1 o4 g4 hat ST
       go_wp2_with fail
       go_roundw
       case rel=>exact ⟨k + 1,m + 1,ao2,c3,_,by go_num,ab,by rw [HT.out,HO.out,←List.append_assoc];exact st2⟩
       case measure=>simp [intOf];omega
     ·have HO:Hid ((if 0 < (aT ws k).length then [aT ws k] else [])= []):=Lib.hid (if_neg ab)
      obtain rfl:n1=0:=by omega
      clear hil
      go_wp2_with fail
      go_roundw
      case rel=>exact ⟨k + 1,m,ao',c',us,by go_num,ab,by rw [HT.out,HO.out,List.append_nil];exact ST.out⟩
      case measure=>simp [intOf];omega
    ·obtain rfl:k=n:=by omega
     have x0:=st.box.cell 0
     have x1:=st.box.cell 1
     have y0:=st.res.cell 0
     have y1:=st.res.cell 1
     have f0:=st.res.frozen 0
     have f1:=st.res.frozen 1
     simp at x0 x1 y0 y1
     have hlen:=st.row.len
     have hTZ:ws.take k=ws:=List.take_of_length_le ab
     rw [hTZ] at st hlen
     have hNE:d.2 ++ sd ws=sd (d.2 ++ ws):=by rw [Eo,q2]
     rw [hNE] at st hlen
     have ST:=Lib.hid st
     have HLEN:=Lib.hid hlen
     clear st hlen hNE
     by_cases h24:m≤24
     ·have c24:decide ((m:Int) > 24)=false:=by simp;omega
      have h24z:(sd (d.2 ++ ws)).length≤24:=by rw [HLEN.out];exact h24
      have hK:lu d ws=0:=by rw [HP.out.1];unfold wj;rw [if_pos h24z]
      have hV:kT d ws=(d.1,sd (d.2 ++ ws)):=by rw [HP.out.2.1];unfold vL;rw [if_pos h24z]
      have HK:=Lib.hid (And.intro hK hV)
      clear hK hV h24z
      go_wp2_with fail
      have st2:=ST.out.done d.1 (.slice ao' m c')
      have hpos:=ST.out.at_
      generalize (wr.setCell ⟨w.heap.size + 1,0,none⟩ (.int .i64 d.1)).setCell ⟨w.heap.size + 1,1,none⟩ (.slice ao' m c')=wf2 at *
      have e0:=st2.1.cell 0
      have e1:=st2.1.cell 1
      simp at e0 e1
      refine bodyPost_ret (v:= .tuple #[.agg #[.int .i64 d.1, .slice ao' m c'], .int .i64 0]) (by simp [results,Try.f32,go_sem,e0,e1]) rfl ⟨_,by rw [HK.out.1], ?_,st2.2.2⟩
      rw [HK.out.2]
      exact ⟨ao',m,c',us,rfl,st2.2.1.mono ab (Nat.le_refl _)⟩
     ·have c24:decide ((m:Int) > 24)=true:=by simp;omega
      have h24z:¬(sd (d.2 ++ ws)).length≤24:=by rw [HLEN.out];exact h24
      have hK:lu d ws=3:=by rw [HP.out.1];unfold wj;rw [if_neg h24z]
      have hV:kT d ws=(0, []):=by rw [HP.out.2.1];unfold vL;rw [if_neg h24z]
      have HK:=Lib.hid (And.intro hK hV)
      clear hK hV h24z
      go_wp2_with fail
      have st2:=ST.out.done 0 (.slice none 0 0)
      generalize (wr.setCell ⟨w.heap.size + 1,0,none⟩ (.int .i64 0)).setCell ⟨w.heap.size + 1,1,none⟩ (.slice none 0 0)=wf2 at *
      have e0:=st2.1.cell 0
      have e1:=st2.1.cell 1
      simp at e0 e1
      refine bodyPost_ret (v:= .tuple #[.agg #[.int .i64 0, .slice none 0 0], .int .i64 3]) (by simp [results,Try.f32,go_sem,e0,e1]) rfl ⟨_,by rw [HK.out.1], ?_,st2.2.2⟩
      rw [HK.out.2]
      exact ⟨none,0,0, [],rfl,eT.dD (Own.iX _ _ _) (fun g hg=>by cases hg)⟩
  have za0:(w1.alloc (.cells #[.int .i64 0, .slice none 0 0] 34)).cell? ⟨w.heap.size,0,none⟩=some (.int .i64 d.1):=(K0.out.alloc _).cell 0
  have za1:(w1.alloc (.cells #[.int .i64 0, .slice none 0 0] 34)).cell? ⟨w.heap.size,1,none⟩=some (.slice ro rn rc):=(K0.out.alloc _).cell 1
  go_region_law (go_simp;go_at_call 63;refine (DE ro rn rc d.2 _ (HR.out.below (bc (by first | exact db _ | exact (db _).alloc (by simp) _) B1)) HLL.out).mono ?_;rintro e w2 ⟨v2,rfl,⟨a2,n2,c2,us2,rfl,o2⟩,b2⟩;(try have kx:dQ w2 w1.heap.size 34 #[.int .i64 0, .slice none 0 0]:=dQ.bm (w:=(w1.alloc (.cells #[.int .i64 0, .slice none 0 0] 34)).drew) (bS (w:=w1) rfl:) b2);(try have kx0:=kx.cell 0);(try have kx1:=kx.cell 1);(try have kf0:=kx.frozen 0);(try have kf1:=kx.frozen 1);(try simp at kx0 kx1);have kz:=K0.out.bm (bc b2 (by first | exact db _ | exact (db _).alloc (by simp) _));have z0':w2.cell? ⟨w.heap.size,0,none⟩=some (.int .i64 d.1):=kz.cell 0;have z0'':(w2.alloc (.cells #[.int .i64 0, .slice none 0 0] 34)).cell? ⟨w.heap.size,0,none⟩=some (.int .i64 d.1):=(kz.alloc _).cell 0)
  all_goals first
   | exact tail _ _ _ _ _ _ _ (oO.FP K1.out B1 ab (bc b2 (db _)) o2 (by have:=o2.len;omega))
   | exact tail _ _ _ _ _ _ _ (oO.F1 K1.out B1 ab (bc b2 (db _)) (by first | simp | (show (w1.alloc _).heap.size=_;simp)) o2 (by have:=o2.len;omega))
end Go.Proofs.Ytfpcfckocmmcnaa
namespace Go.Proofs.Ytfpcfckocmmcnaa
open Go.RowKit
theorem Bj {v:Value} {d:di} (ao:Option Addr) (n c:Nat) (ws:List (List Int)) (w:World) (h:wZ w v d) (h':ep w ao n ws):
  Calls Try.prog 10 #[v, .slice ao n c] w fun e w'=>∃v,e= .returned (.tuple #[v, .int .i64 (lu d ws)])∧oN 2 24 w' w.heap.size w'.heap.size v (kT d ws)∧Below w.heap.size w w':=by
 obtain ⟨ro,rn,rc,rfl,hr⟩:=h
 have hb:=below_alloc2 w (.cells #[.int .i64 d.1, .slice ro rn rc] 34) (.cells #[.int .i64 0, .slice none 0 0] 34)
 have kp:dQ ((w.alloc (.cells #[.int .i64 d.1, .slice ro rn rc] 34)).alloc (.cells #[.int .i64 0, .slice none 0 0] 34)) w.heap.size 34 #[.int .i64 d.1, .slice ro rn rc]:=(bS rfl).alloc _
 have kb:dQ ((w.alloc (.cells #[.int .i64 d.1, .slice ro rn rc] 34)).alloc (.cells #[.int .i64 0, .slice none 0 0] 34)) (w.heap.size + 1) 34 #[.int .i64 0, .slice none 0 0]:=bS (by simp)
 have h1:wZ ((w.alloc (.cells #[.int .i64 d.1, .slice ro rn rc] 34)).alloc (.cells #[.int .i64 0, .slice none 0 0] 34)) (.agg #[.int .i64 d.1, .slice ro rn rc]) d:=⟨ro,rn,rc,rfl,hr.below hb⟩
 have h2:=h'.below hb
 have HR:=Lib.hid hr
 have HI:=Lib.hid h'
 cases hp:dP d ws with
 | false=>
  have hC:lu d ws=1:=by unfold lu;rw [hp];rfl
  have hR:kT d ws=(0, []):=by unfold kT;rw [hp];rfl
  have hW:eN d ws=1:=by unfold eN;rw [hp];rfl
  have HP:=Lib.hid (And.intro hC (And.intro hR hW))
  clear hC hR hW hr h'
  go_enter Try.func10,Try.ntmps10
  go_wp2_with fail
  refine (fg ao n c ws _ h1 h2).mono ?_
  rintro e w1 ⟨rfl,b1⟩
  rw [HP.out.2.2]
  have k1:=kb.bm b1
  have y0:=k1.cell 0
  have y1:=k1.cell 1
  have f0:=k1.frozen 0
  have f1:=k1.frozen 1
  simp at y0 y1
  have B1:=bc b1 hb
  clear h1 h2 hb kb b1 kp
  go_wp2_with fail
  have st2:=((k1.fz 0 (.int .i64 0)).fz 1 (.slice none 0 0))
  have hbf:=(B1.setCell (p:=⟨w.heap.size + 1,0,none⟩) (by simp) (.int .i64 0)).setCell (p:=⟨w.heap.size + 1,1,none⟩) (by simp) (.slice none 0 0)
  generalize (w1.setCell ⟨w.heap.size + 1,0,none⟩ (.int .i64 0)).setCell ⟨w.heap.size + 1,1,none⟩ (.slice none 0 0)=wf at *
  have e0:=st2.cell 0
  have e1:=st2.cell 1
  simp at e0 e1
  refine bodyPost_ret (v:= .tuple #[.agg #[.int .i64 0, .slice none 0 0], .int .i64 1]) (by simp [results,Try.f10,go_sem,e0,e1]) rfl ⟨_,by rw [HP.out.1], ?_,hbf⟩
  rw [HP.out.2.1]
  exact ⟨none,0,0, [],rfl,eT.dD (Own.iX _ _ _) (fun g hg=>by cases hg)⟩
 | true=>
  have hC:lu d ws=wj (d.2 ++ ws):=by unfold lu;rw [hp];rfl
  have hR:kT d ws=vL d.1 (d.2 ++ ws):=by unfold kT;rw [hp];rfl
  have hW:eN d ws=0:=by unfold eN;rw [hp];rfl
  obtain ⟨hp1,hp2⟩:=iD hp
  obtain ⟨q1,q2,q3⟩:=kZ hp1
  obtain ⟨q4,q5⟩:=lL hp2
  have hg:=jO hp1
  have HG:=Lib.hid hg
  clear hg
  have HP:=Lib.hid (And.intro hC (And.intro hR hW))
  have hn:=h'.1
  have hrn:=hr.1
  clear hC hR hW hr h'
  go_enter Try.func10,Try.ntmps10
  go_wp2_with fail
  refine (fg ao n c ws _ h1 h2).mono ?_
  rintro e w1 ⟨rfl,b1⟩
  rw [HP.out.2.2]
  have k0:=kp.bm b1
  have k1:=kb.bm b1
  have z0:=k0.cell 0
  have z1:=k0.cell 1
  simp at z0 z1
  have B1:=bc b1 hb
  have s1:w.heap.size + 2≤w1.heap.size:=by have:=b1.size;simp at this;omega
  have K1:=Lib.hid k1
  clear h1 h2 hb kb b1 kp k0 k1
  go_wp2_with fail
  have hg:=HG.out
  obtain ⟨N,hN⟩:∃N:Nat,d.1=(N:Int):=⟨d.1.toNat,ab⟩
  rw [hN]
  refine (ko N ab ro ao rn rc n c d.2 ws _ (HR.out.below B1) (HI.out.below B1) ab ab (fun z hz=> ?_)).mono ?_
  ·rcases List.mem_append.1 hz with h | h
   ·have:=q3 z h;omega
   ·have:=q5 z h;omega
  rintro e w2 ⟨v2,rfl,⟨a2,n2,c2,us2,rfl,o2⟩,b2⟩
  have k1:=K1.out.bm b2
  have y0:=k1.cell 0
  have y1:=k1.cell 1
  have f0:=k1.frozen 0
  have f1:=k1.frozen 1
  simp at y0 y1
  have B2:=bc b2 B1
  have s2:=b2.size
  clear z0 z1
  go_wp2_with fail
  obtain ⟨D,hD⟩:∃D,D=vL N (d.2 ++ ws):=⟨_,rfl⟩
  rw [←hD] at o2 ⊢
  have hDR:kT d ws=D:=by rw [HP.out.2.1,hD,hN]
  have hDC:=HP.out.1
  rw [hDC,hDR]
  have st2:=(k1.fz 0 (.int .i64 D.1)).fz 1 (.slice a2 n2 c2)
  have hbf:=(B2.setCell (p:=⟨w.heap.size + 1,0,none⟩) (by simp) (.int .i64 D.1)).setCell (p:=⟨w.heap.size + 1,1,none⟩) (by simp) (.slice a2 n2 c2)
  have hrow:=o2.same (w':=(w2.setCell ⟨w.heap.size + 1,0,none⟩ (.int .i64 D.1)).setCell ⟨w.heap.size + 1,1,none⟩ (.slice a2 n2 c2)) (cJ _) fun g h1 _ _=>by rw [Below.heap_setCell _ _ _ _ (by simp;omega),Below.heap_setCell _ _ _ _ (by simp;omega)]
  have hh:((w2.setCell ⟨w.heap.size + 1,0,none⟩ (.int .i64 D.1)).setCell ⟨w.heap.size + 1,1,none⟩ (.slice a2 n2 c2)).heap.size=w2.heap.size:=by simp [World.setCell]
  generalize (w2.setCell ⟨w.heap.size + 1,0,none⟩ (.int .i64 D.1)).setCell ⟨w.heap.size + 1,1,none⟩ (.slice a2 n2 c2)=wf at *
  have e0:=st2.cell 0
  have e1:=st2.cell 1
  simp at e0 e1
  refine bodyPost_ret (v:= .tuple #[.agg #[.int .i64 D.1, .slice a2 n2 c2], .int .i64 (wj (d.2 ++ ws))]) (by simp [results,Try.f10,go_sem,e0,e1]) rfl ⟨_,rfl, ?_,hbf⟩
  exact ⟨a2,n2,c2,us2,rfl,hrow.mono ab ab⟩
end Go.Proofs.Ytfpcfckocmmcnaa
namespace Go.Proofs.Ytfpcfckocmmcnaa
open Go.RowKit
theorem yR {v v':Value} {d:di} {qs:List (List Int)} (w:World) (h:wZ w v d) (h':mN w v' qs):
  Calls Try.prog 10 #[v,v'] w fun e w'=>∃v,e= .returned (.tuple #[v, .int .i64 (lu d qs)])∧oN 2 24 w' w.heap.size w'.heap.size v (kT d qs)∧Below w.heap.size w w':=by
 obtain ⟨ao,n,c,rfl,hi⟩:=h'
 exact Bj ao n c qs w h hi
end Go.Proofs.Ytfpcfckocmmcnaa
namespace Go.Proofs.Ytfpcfckocmmcnaa
open Go.RowKit
theorem gF (ao:Option Addr) (n c:Nat) (zs:List Int) (w:World) (h:cW w ao n zs) (hz:∀j,j < n→0≤aD zs j∧aD zs j≤32) (hn:n < 5):
  Calls Try.prog 26 #[.slice ao n c] w fun e w'=>∃v,e= .returned v∧oN 2 24 w' w.heap.size w'.heap.size v (aS zs)∧Below w.heap.size w w':=by
 have HL:=Lib.hid h.1
 obtain ⟨N,hN⟩:∃N,n + 1=N:=⟨_,rfl⟩
 have hN5:N≤5:=by omega
 go_enter Try.func26,Try.ntmps26
 go_wp2_with (go_at_call 39;refine (nS ao n c _).mono ?_;rintro e w1 ⟨rfl,rfl⟩)
 rw [show ((n:Int) + 1)=(N:Int) by omega]
 have r0:dQ ((w.alloc (.cells #[.int .i64 0, .slice none 0 0] 34)).alloc (.cells #[.int .i64 N, .slice none 0 0] 34)) w.heap.size 34 #[.int .i64 0, .slice none 0 0]:=(bS rfl).alloc _
 have r1:dQ ((w.alloc (.cells #[.int .i64 0, .slice none 0 0] 34)).alloc (.cells #[.int .i64 N, .slice none 0 0] 34)) (w.heap.size + 1) 34 #[.int .i64 N, .slice none 0 0]:=bS (by simp)
 go_loopw [14] (fun i wr=>∃(k m:Nat) (ao':Option Addr) (c':Nat) (us:List Value),i= .int .i64 k∧k≤N∧mI w wr N ao' m c' us (jz zs N k)) (fun i _=>N - (intOf i).toNat)
 case atStart=>exact ⟨0,0,none,0, [],rfl,Nat.zero_le _,r0,r1,eT.dD (Own.iX _ _ _) (fun g hg=>by cases hg),by simp,below_alloc2 _ _ _,ab⟩
 case round=>
  obtain ⟨k,m,ao',c',us,rfl,hk,st⟩:=hrel
  by_cases hlt:k < N
  ·have x0:=st.box.cell 0
   simp at x0
   have ST:=Lib.hid st
   clear st r0 r1
   go_wp2_with fail
   go_loopw [6] (fun i wr=>∃(j m:Nat) (ao':Option Addr) (c':Nat) (us:List Value),i= .int .i64 j∧k < j∧j≤N∧mI w wr N ao' m c' us (jz zs N k ++ fT zs k (j - (k + 1)))) (fun i _=>N - (intOf i).toNat)
   case atStart=>exact ⟨k + 1,m,ao',c',us,by simp,ab,ab,by simpa [fT] using ST.out⟩
   case round=>
    obtain ⟨j,m,ao',c',us,rfl,hkj,hj,st⟩:=hrel
    clear ST x0
    have x0:=st.box.cell 0
    have x1:=st.box.cell 1
    have f1:=st.box.frozen 1
    simp at x0 x1
    have ST:=Lib.hid st
    clear st
    by_cases hlt2:j < N
    ·by_cases hjk:j=k + 1
     ·subst hjk
      obtain ⟨L,hL⟩:∃L:Nat,aD zs k=(L:Int):=⟨(aD zs k).toNat,by have:=hz k ab;omega⟩
      have hL2:L≤32:=by have:=hz k ab;omega
      have hlab:ft zs k (k + 1)=(L:Int):=by unfold ft;rw [if_pos rfl,hL]
      have HLAB:=Lib.hid hlab
      clear hlab
      obtain ⟨b,off,rfl,hc⟩:=(h.below ST.out.below).at_ (k:=k) ab
      rw [hL] at hc
      by_cases hL0:0 < L
      ·have hm:m + 1≤1000:=by have h1:=ST.out.row.len;have h2:=mh zs N k;have h3:=hH zs k ((k + 1) - (k + 1));have h4:N * k≤5 * 5:=Nat.mul_le_mul hN5 ab;rw [List.length_append] at h1;omega
       have hP:cW (wr.alloc (.cells #[.int .i64 k, .int .i64 ((k:Int) + 1)] 2)).drew (some ⟨wr.heap.size,0,none⟩) 2 [(k:Int),((k:Int) + 1)]:=Own.ints (zs:= [(k:Int),((k:Int) + 1)]) (mq (us:= [.int .i64 k, .int .i64 ((k:Int) + 1)]) rfl (Nat.le_refl _) (by simp))
       have bP:Below wr.heap.size wr (wr.alloc (.cells #[.int .i64 k, .int .i64 ((k:Int) + 1)] 2)):=below_alloc1 _ _
       have HP:=Lib.hid hP
       have BP:=Lib.hid bP
       have HM:=Lib.hid hm
       have hsz:=ST.out.size
       have HO:Hid (fi zs k (k + 1)= [dM [(k:Int),((k:Int) + 1)] L]):=Lib.hid (by unfold fi;rw [HLAB.out,if_pos ab];rfl)
       clear hP bP hm
       go_wp2_with fail
       have xP:(wr.alloc (.cells #[.int .i64 k, .int .i64 ((k:Int) + 1)] 2)).cell? ⟨w.heap.size + 1,1,none⟩=some (.slice ao' m c'):=(ST.out.box.alloc _).cell 1
       go_region_law (first | (refine ka (o:=⟨some 42,_,_,_,_,_⟩) kH rfl (.tmp 35) (.tmp 41) rfl (w.heap.size + 2) ao' m c' us rfl (ST.out.row.own.below B3) (.slice a1 (2 * L) c1) w2.heap.size 1 rfl ((bS rfl).cell 0) rfl (by have:=HM.out;omega) (by have:=B3.size;simp at *;omega) ?_;intro ao2 c2 w4 o4 g4 hat;have B4S:Below (w.heap.size + 2) wr w4:=(B3S.grown g4 (by have:=B3.size;omega) (fun g hg=>(ST.out.row.own.lt g hg).1));have x4:w4.cell? ⟨w.heap.size + 1,1,none⟩=some (.slice ao' m c'):=(ST.out.box.below B4S ab).cell 1;have f4:w4.frozen? ⟨w.heap.size + 1,1,none⟩=false:=(ST.out.box.below B4S ab).frozen 1) | (go_simp;go_at_call 53;refine (kK _ 2 2 L [(k:Int),((k:Int) + 1)] _ HP.out ab ab ab ab).mono ?_;rintro e w2 ⟨a1,c1,rfl,o1,b1⟩;have B2:Below wr.heap.size wr w2:=bc b1 BP.out.drew;have B2S:=B2.mono hsz;have B3:Below wr.heap.size wr (w2.alloc (.cells #[.slice a1 (2 * L) c1] 24)):=B2.alloc B2.size _;have B3S:=B3.mono hsz;have x2:w2.cell? ⟨w.heap.size + 1,1,none⟩=some (.slice ao' m c'):=(ST.out.box.below B2S ab).cell 1;have x3:(w2.alloc (.cells #[.slice a1 (2 * L) c1] 24)).cell? ⟨w.heap.size + 1,1,none⟩=some (.slice ao' m c'):=(ST.out.box.below B3S ab).cell 1))
       all_goals
        have st2:=ST.out.push HM.out B2 (o1.mono (by simp [World.drew])) (below_alloc1 _ _) o4 g4 hat
        have hs4:=B4S.size
        generalize w4.setCell ⟨w.heap.size + 1,1,none⟩ (.slice ao2 (m + 1) c2)=wf at *
        clear B2 B2S B3 B3S B4S x0 x1 x2 x3 x4 xP f1 f4 o1 b1 o4 g4 hat ST HP BP
        go_wp2_with fail
        go_roundw
        case rel=>exact ⟨(k + 1) + 1,m + 1,ao2,c2,_,by go_num,ab,ab,by rw [gY ab,←List.append_assoc,HO.out];exact st2⟩
        case measure=>simp [intOf];omega
      ·obtain rfl:L=0:=by omega
       have HO:Hid (fi zs k (k + 1)= []):=Lib.hid (by unfold fi;rw [HLAB.out,if_neg ab])
       go_wp2_with fail
       go_roundw
       case rel=>exact ⟨k + 1 + 1,m,ao',c',us,by go_num,ab,ab,by rw [gY ab,←List.append_assoc,HO.out,List.append_nil];exact ST.out⟩
       case measure=>simp [intOf];omega
     ·have hm:m + 1≤1000:=by have h1:=ST.out.row.len;have h2:=mh zs N k;have h3:=hH zs k (j - (k + 1));have h4:N * k≤5 * 5:=Nat.mul_le_mul hN5 ab;rw [List.length_append] at h1;omega
      have hP:cW (wr.alloc (.cells #[.int .i64 k, .int .i64 (j:Int)] 2)).drew (some ⟨wr.heap.size,0,none⟩) 2 [(k:Int),(j:Int)]:=Own.ints (zs:= [(k:Int),(j:Int)]) (mq (us:= [.int .i64 k, .int .i64 (j:Int)]) rfl (Nat.le_refl _) (by simp))
      have bP:Below wr.heap.size wr (wr.alloc (.cells #[.int .i64 k, .int .i64 (j:Int)] 2)):=below_alloc1 _ _
      have HP:=Lib.hid hP
      have BP:=Lib.hid bP
      have HM:=Lib.hid hm
      have hsz:=ST.out.size
      have HO:Hid (fi zs k j= [dM [(k:Int),(j:Int)] 2]):=Lib.hid (by unfold fi ft;rw [if_neg hjk,if_pos ab];rfl)
      clear hP bP hm
      go_wp2_with fail
      have xP:(wr.alloc (.cells #[.int .i64 k, .int .i64 (j:Int)] 2)).cell? ⟨w.heap.size + 1,1,none⟩=some (.slice ao' m c'):=(ST.out.box.alloc _).cell 1
      go_region_law (first | (refine ka (o:=⟨some 42,_,_,_,_,_⟩) kH rfl (.tmp 35) (.tmp 41) rfl (w.heap.size + 2) ao' m c' us rfl (ST.out.row.own.below B3) (.slice a1 (2 * 2) c1) w2.heap.size 1 rfl ((bS rfl).cell 0) rfl (by have:=HM.out;omega) (by have:=B3.size;simp at *;omega) ?_;intro ao2 c2 w4 o4 g4 hat;have B4S:Below (w.heap.size + 2) wr w4:=(B3S.grown g4 (by have:=B3.size;omega) (fun g hg=>(ST.out.row.own.lt g hg).1));have x4:w4.cell? ⟨w.heap.size + 1,1,none⟩=some (.slice ao' m c'):=(ST.out.box.below B4S ab).cell 1;have f4:w4.frozen? ⟨w.heap.size + 1,1,none⟩=false:=(ST.out.box.below B4S ab).frozen 1) | (go_simp;go_at_call 53;refine (kK _ 2 2 2 [(k:Int),(j:Int)] _ HP.out ab ab ab ab).mono ?_;rintro e w2 ⟨a1,c1,rfl,o1,b1⟩;have B2:Below wr.heap.size wr w2:=bc b1 BP.out.drew;have B2S:=B2.mono hsz;have B3:Below wr.heap.size wr (w2.alloc (.cells #[.slice a1 (2 * 2) c1] 24)):=B2.alloc B2.size _;have B3S:=B3.mono hsz;have x2:w2.cell? ⟨w.heap.size + 1,1,none⟩=some (.slice ao' m c'):=(ST.out.box.below B2S ab).cell 1;have x3:(w2.alloc (.cells #[.slice a1 (2 * 2) c1] 24)).cell? ⟨w.heap.size + 1,1,none⟩=some (.slice ao' m c'):=(ST.out.box.below B3S ab).cell 1))
      all_goals
       have st2:=ST.out.push HM.out B2 (o1.mono (by simp [World.drew])) (below_alloc1 _ _) o4 g4 hat
       have hs4:=B4S.size
       generalize w4.setCell ⟨w.heap.size + 1,1,none⟩ (.slice ao2 (m + 1) c2)=wf at *
       clear B2 B2S B3 B3S B4S x0 x1 x2 x3 x4 xP f1 f4 o1 b1 o4 g4 hat ST HP BP
       go_wp2_with fail
       go_roundw
       case rel=>exact ⟨j + 1,m + 1,ao2,c2,_,by go_num,ab,ab,by rw [gY ab,←List.append_assoc,HO.out];exact st2⟩
       case measure=>simp [intOf];omega
    ·obtain rfl:j=N:=by omega
     go_wp2_with fail
     go_roundw
     case rel=>exact ⟨k + 1,m,ao',c',us,by go_num,ab,ST.out⟩
     case measure=>simp [intOf];omega
  ·obtain rfl:k=N:=by omega
   have x0:=st.box.cell 0
   have x1:=st.box.cell 1
   have y0:=st.res.cell 0
   have y1:=st.res.cell 1
   have f0:=st.res.frozen 0
   have f1:=st.res.frozen 1
   simp at x0 x1 y0 y1
   have ST:=Lib.hid st
   clear st r0 r1
   go_wp2_with fail
   have st2:=ST.out.done
   generalize (wr.setCell ⟨w.heap.size,0,none⟩ (.int .i64 k)).setCell ⟨w.heap.size,1,none⟩ (.slice ao' m c')=wf at *
   have e0:=st2.1.cell 0
   have e1:=st2.1.cell 1
   simp at e0 e1
   refine bodyPost_ret (v:= .agg #[.int .i64 k, .slice ao' m c']) (by simp [results,Try.f26,go_sem,e0,e1]) rfl ⟨_,rfl,⟨ao',m,c',us, ?_, ?_⟩,st2.2.2⟩
   ·unfold aS;rw [HL.out,hN]
   ·unfold aS;rw [HL.out,hN];exact st2.2.1.mono ab (Nat.le_refl _)
end Go.Proofs.Ytfpcfckocmmcnaa
namespace Go.Proofs.Ytfpcfckocmmcnaa
open Go.RowKit
theorem mf {zs:List Int} (h:cK zs=true):zs.length < 5∧∀j,j < zs.length→0≤aD zs j∧aD zs j≤32:=by
 unfold cK at h
 simp only [Bool.and_eq_true,List.all_eq_true,decide_eq_true_eq] at h
 refine ⟨h.2,fun j hj=> ?_⟩
 have h1:=h.1 (aD zs j) (by rw [cA hj];exact List.getElem_mem hj)
 unfold eH at h1
 rcases Bool.or_eq_true _ _ ▸ h1 with h2 | h2
 ·have:aD zs j=0:=by simpa using h2
  omega
 ·have:=dY.1 h2
  omega
theorem iK (ao:Option Addr) (n c:Nat) (zs:List Int) (w:World) (h:cW w ao n zs):
  Calls Try.prog 31 #[.slice ao n c] w fun e w'=>e= .returned (.bool (cK zs))∧Below w.heap.size w w':=
 (vg ao n c zs w h).mono (by rintro e w' ⟨rfl,rfl⟩;exact ⟨rfl,Below.refl _ _⟩)
def ze (zs:List Int):di:=if cK zs=true then aS zs else (0, [])
def zc (zs:List Int):Int:=if cK zs=true then 0 else 1
theorem wS (ao:Option Addr) (n c:Nat) (zs:List Int) (w:World) (h:cW w ao n zs):
  Calls Try.prog 9 #[.slice ao n c] w fun e w'=>∃v,e= .returned (.tuple #[v, .int .i64 (zc zs)])∧oN 2 24 w' w.heap.size w'.heap.size v (ze zs)∧Below w.heap.size w w':=by
 have hb:=below_alloc1 w (.cells #[.int .i64 0, .slice none 0 0] 34)
 have kb:dQ (w.alloc (.cells #[.int .i64 0, .slice none 0 0] 34)) w.heap.size 34 #[.int .i64 0, .slice none 0 0]:=bS rfl
 have hi:=h.below hb
 cases hp:cK zs with
 | true=>
  obtain ⟨hd1,hd2⟩:=mf hp
  rw [h.1] at hd1 hd2
  have hR:ze zs=aS zs:=by unfold ze;rw [if_pos hp]
  have hC:zc zs=0:=by unfold zc;rw [if_pos hp]
  have HX:=Lib.hid hp
  rw [hR,hC]
  clear hp hR hC
  go_enter Try.func9,Try.ntmps9
  go_wp2_with fail
  refine (cQ ao n c zs _ hi).mono ?_
  rintro e w1 ⟨rfl,b1⟩
  rw [HX.out]
  have k0:=kb.bm b1
  have B1:=bc b1 hb
  have hi1:=hi.below b1
  have HZ:=Lib.hid hb.size
  clear kb hb b1 hi h
  go_wp2_with fail
  refine (gF ao n c zs _ hi1 hd2 hd1).mono ?_
  rintro e w2 ⟨v1,rfl,⟨a1,n1,c1,us,rfl,o1⟩,b1⟩
  have k1:=k0.bm b1
  have c0:w2.cell? ⟨w.heap.size,0,none⟩=some (.int .i64 0):=k1.cell 0
  have c1':w2.cell? ⟨w.heap.size,1,none⟩=some (.slice none 0 0):=k1.cell 1
  have f0:=k1.frozen 0
  have f1:=k1.frozen 1
  go_wp2
  have hlt:=k0.lt
  have k2:=(k1.fz 0 (.int .i64 (aS zs).1)).fz 1 (.slice a1 n1 c1)
  have z2:w2.heap.size=((w2.setCell ⟨w.heap.size,0,none⟩ (.int .i64 (aS zs).1)).setCell ⟨w.heap.size,1,none⟩ (.slice a1 n1 c1)).heap.size:=by simp [World.setCell]
  have o2:=o1.same (cJ _) (w':=(w2.setCell ⟨w.heap.size,0,none⟩ (.int .i64 (aS zs).1)).setCell ⟨w.heap.size,1,none⟩ (.slice a1 n1 c1)) (fun g h1 _ _=>by rw [Below.heap_setCell _ _ _ _ (by simp at h1 ⊢;omega),Below.heap_setCell _ _ _ _ (by simp at h1 ⊢;omega)])
  have b2:=((bc b1 B1).setCell (p:=⟨w.heap.size,0,none⟩) (Nat.le_refl _) (.int .i64 (aS zs).1)).setCell (p:=⟨w.heap.size,1,none⟩) (Nat.le_refl _) (.slice a1 n1 c1)
  generalize (w2.setCell ⟨w.heap.size,0,none⟩ (.int .i64 (aS zs).1)).setCell ⟨w.heap.size,1,none⟩ (.slice a1 n1 c1)=w3 at *
  have e0:=k2.cell 0
  have e1:=k2.cell 1
  simp at e0 e1
  exact bodyPost_ret (v:= .tuple #[.agg #[.int .i64 (aS zs).1, .slice a1 n1 c1], .int .i64 0]) (by simp [results,Try.f9,go_sem,e0,e1]) rfl ⟨_,rfl,⟨_,_,_,us,rfl,o2.mono ab ab⟩,b2⟩
 | false=>
  have hR:ze zs=(0, []):=by unfold ze;rw [if_neg (by simp [hp])]
  have hC:zc zs=1:=by unfold zc;rw [if_neg (by simp [hp])]
  have HX:=Lib.hid hp
  rw [hR,hC]
  clear hp hR hC
  go_enter Try.func9,Try.ntmps9
  go_wp2_with fail
  refine (cQ ao n c zs _ hi).mono ?_
  rintro e w1 ⟨rfl,b1⟩
  rw [HX.out]
  have k0:=kb.bm b1
  have B1:=bc b1 hb
  have c0:w1.cell? ⟨w.heap.size,0,none⟩=some (.int .i64 0):=k0.cell 0
  have c1':w1.cell? ⟨w.heap.size,1,none⟩=some (.slice none 0 0):=k0.cell 1
  have f0:=k0.frozen 0
  have f1:=k0.frozen 1
  clear kb hb b1 hi h
  go_wp2
  have k2:=(k0.fz 0 (.int .i64 0)).fz 1 (.slice none 0 0)
  have b2:=(B1.setCell (p:=⟨w.heap.size,0,none⟩) (Nat.le_refl _) (.int .i64 0)).setCell (p:=⟨w.heap.size,1,none⟩) (Nat.le_refl _) (.slice none 0 0)
  generalize (w1.setCell ⟨w.heap.size,0,none⟩ (.int .i64 0)).setCell ⟨w.heap.size,1,none⟩ (.slice none 0 0)=w3 at *
  have e0:=k2.cell 0
  have e1:=k2.cell 1
  simp at e0 e1
  exact bodyPost_ret (v:= .tuple #[.agg #[.int .i64 0, .slice none 0 0], .int .i64 1]) (by simp [results,Try.f9,go_sem,e0,e1]) rfl ⟨_,rfl,⟨_,_,_, [],rfl,eT.dD (Own.iX _ _ _) (by simp [bk])⟩,b2⟩
end Go.Proofs.Ytfpcfckocmmcnaa
namespace Go.Proofs.Ytfpcfckocmmcnaa
open Go.RowKit
theorem pn {d:di} {ws:List (List Int)} (h:lu d ws=0):dN (kT d ws)=true:=by
 unfold lu at h
 split at h
 ·rename_i hok
  unfold kT
  rw [if_pos hok]
  unfold wj at h
  split at h
  ·rename_i h24
   unfold vL
   rw [if_pos h24]
   obtain ⟨hp,hw⟩:=iD hok
   unfold dN at hp ⊢
   unfold dT at hw
   simp only [Bool.and_eq_true,decide_eq_true_eq,List.all_eq_true] at hp hw ⊢
   refine ⟨⟨hp.1.1,h24⟩,fun z hz=> ?_⟩
   have hz2:=List.mem_filter.1 hz
   refine ⟨?_,by have:=hz2.2;simp at this;omega⟩
   rcases List.mem_append.1 hz2.1 with h1 | h1
   ·exact (hp.2 z h1).1
   ·exact (hw.2 z h1).1
  ·cases h
 ·cases h
def dI (zs:List Int) (ws:List (List Int)):di:=kT (aS zs) ws
noncomputable def fy (zs:List Int) (ws:List (List Int)):Int:=
 if cK zs=true then (if lu (aS zs) ws=0 then (if da (dI zs ws) []=true then (if iY (bX (dI zs ws) [])=true then 0 else 5) else 3) else lu (aS zs) ws) else 1
noncomputable def eB (zs:List Int) (ws:List (List Int)):List (List Int):=if fy zs ws=0 then bX (dI zs ws) [] else []
section
variable {zs:List Int} {ws:List (List Int)}
theorem zG (h:cK zs=false):fy zs ws=1∧eB zs ws= []:=by
 have e:fy zs ws=1:=by unfold fy;rw [h];rfl
 exact ⟨e,by unfold eB;rw [e];rfl⟩
theorem AA (h:cK zs=true) (h2:lu (aS zs) ws≠0):fy zs ws=lu (aS zs) ws∧eB zs ws= []:=by
 have e:fy zs ws=lu (aS zs) ws:=by unfold fy;rw [if_pos h,if_neg h2]
 exact ⟨e,by unfold eB;rw [e,if_neg h2]⟩
theorem xW (h:cK zs=true) (h2:lu (aS zs) ws=0) (h3:¬da (dI zs ws) []=true):fy zs ws=3∧eB zs ws= []:=by
 have e:fy zs ws=3:=by unfold fy;rw [if_pos h,if_pos h2,if_neg h3]
 exact ⟨e,by unfold eB;rw [e];rfl⟩
theorem Ay (h:cK zs=true) (h2:lu (aS zs) ws=0) (h3:da (dI zs ws) []=true) (h4:iY (bX (dI zs ws) [])=false):fy zs ws=5∧eB zs ws= []:=by
 have e:fy zs ws=5:=by unfold fy;rw [if_pos h,if_pos h2,if_pos h3,h4];rfl
 exact ⟨e,by unfold eB;rw [e];rfl⟩
theorem yb (h:cK zs=true) (h2:lu (aS zs) ws=0) (h3:da (dI zs ws) []=true) (h4:iY (bX (dI zs ws) [])=true):fy zs ws=0∧eB zs ws=bX (dI zs ws) []:=by
 have e:fy zs ws=0:=by unfold fy;rw [if_pos h,if_pos h2,if_pos h3,if_pos h4]
 exact ⟨e,by unfold eB;rw [if_pos e]⟩
end
theorem vc {f:FuncId} {outs:List (Nm×Ch)} {res:AV} {d:di} (hf:Fit d.2→FC Try.prog f [(1002,bh []),(1003,bh d.2)] [pA d.1 d.2.length,o1 (.sl 1002 0 0)] outs res []) {E1 E:Nat} {w:World} {lo hi:Nat} {v:Value} (h:oN E1 E w lo hi v d):
  Calls Try.prog f #[v, .slice none 0 0] w fun e w'=>∃v η ω,e= .returned v∧Den η res v∧Mem η ω w' (fun x=>lk x outs)∧Below w.heap.size w w'∧∀b,b < w.heap.size→ω b=none:=by
 obtain ⟨u,rfl,hs⟩:=Jc h
 obtain ⟨hd,r,rfl,hv⟩:=G2 1003 24 2 hs
 exact (FC.F0 (hf (zf hs))).call (l:= [(1003,(bh d.2,hd,r))]) (us:= [_,_]) (fun p hp=>by simp at hp;subst hp;exact hv) rfl (Az (Hy (nc (q:=(bh d.2,hd,r)) rfl)) rfl)
theorem nC {d:di} (hok:dN d=true) (hs:da d []=true):((bX d []).length:Int)=d.1∧0 < (bX d []).length∧(bX d []).length≤5∧∀g,g < (bX d []).length→(aT (bX d []) g).length=lr d []:=by
 obtain ⟨g,rels⟩:=d
 obtain ⟨ng,rfl,hG⟩:=jE (rels:=rels) (ws:= []) (by rw [gz];exact hok)
 have hl:=fD ng rels []
 refine ⟨by rw [hl],by rw [hl];exact hG.pos,by rw [hl];exact hG.hi,fun k hk=>gj (by rw [hl] at hk;exact hk)⟩
theorem l0 {E1 E:Nat} {lo hi:Nat} {v:Value} {d:di} (w:World) (h:oN E1 E w lo hi v d) (hok:dN d=true) (hs:da d []=true):
  Calls Try.prog 34 #[v, .slice none 0 0] w fun e w'=>∃r,e= .returned (.tuple #[r, .int .i64 0])∧pP 2 24 w' w.heap.size w'.heap.size r (bX d [])∧Below w.heap.size w w':=by
 obtain ⟨g,rels⟩:=d
 obtain ⟨ng,rfl,hG⟩:=jE (rels:=rels) (ws:= []) (by rw [gz];exact hok)
 have hl:=fD ng rels []
 have hh:=hG.hi
 have hc:lr ((ng:Int),rels) []≤400:=by unfold da at hs;simp at hs;exact hs.2
 refine (vc (d:=((ng:Int),rels)) (fun _=>sX hG hs) h).mono ?_
 rintro e w' ⟨v,η,ω,rfl,hd,hm,hb,hn⟩
 obtain ⟨u,u',rfl,h1,h2⟩:=nU hd
 have h2:u'=I6 0:=h2
 subst h2
 refine ⟨u,rfl,Ia (x:=1005) hm hn rfl (by rw [hl];exact h1) ab (fun zs hz=> ?_),hb⟩
 obtain ⟨j,hj,rfl⟩:=List.getElem_of_mem hz
 have:=gj (rels:=rels) (ws:= []) (g:=j) (ng:=ng) ab
 rw [eF hj] at this
 omega
theorem sE {E1 E:Nat} {lo hi:Nat} {v:Value} {d:di} (w:World) (h:oN E1 E w lo hi v d) (hok:dN d=true) (hs:¬da d []=true):
  Calls Try.prog 34 #[v, .slice none 0 0] w fun e w'=>e= .returned (.tuple #[.slice none 0 0, .int .i64 3])∧Below w.heap.size w w':=by
 obtain ⟨g,rels⟩:=d
 obtain ⟨ng,rfl,hG⟩:=jE (rels:=rels) (ws:= []) (by rw [gz];exact hok)
 exact rP (vc (d:=((ng:Int),rels)) (fun _=>uI hG hs) h)
theorem lJ {E1 E:Nat} {lo hi:Nat} {v:Value} {d:di} (w:World) (h:oN E1 E w lo hi v d) (hok:dN d=true) (hs:da d []=true):
  Calls Try.prog 29 #[v, .slice none 0 0] w fun e w'=>∃r,e= .returned (.tuple #[r, .int .i64 0])∧pP 2 24 w' w.heap.size w'.heap.size r (bX d [])∧Below w.heap.size w w':=by
 obtain ⟨g,rels⟩:=d
 obtain ⟨ng,rfl,hG⟩:=jE (rels:=rels) (ws:= []) (by rw [gz];exact hok)
 have hl:=fD ng rels []
 have hh:=hG.hi
 have hc:lr ((ng:Int),rels) []≤400:=by unfold da at hs;simp at hs;exact hs.2
 refine (vc (d:=((ng:Int),rels)) (fun _=>s9 hG hs) h).mono ?_
 rintro e w' ⟨v,η,ω,rfl,hd,hm,hb,hn⟩
 obtain ⟨u,u',rfl,h1,h2⟩:=nU hd
 have h2:u'=I6 0:=h2
 subst h2
 refine ⟨u,rfl,Ia (x:=1005) hm hn rfl (by rw [hl];exact h1) ab (fun zs hz=> ?_),hb⟩
 obtain ⟨j,hj,rfl⟩:=List.getElem_of_mem hz
 have:=gj (rels:=rels) (ws:= []) (g:=j) (ng:=ng) ab
 rw [eF hj] at this
 omega
theorem sF {E1 E:Nat} {lo hi:Nat} {v:Value} {d:di} (w:World) (h:oN E1 E w lo hi v d) (hok:dN d=true) (hs:¬da d []=true):
  Calls Try.prog 29 #[v, .slice none 0 0] w fun e w'=>e= .returned (.tuple #[.slice none 0 0, .int .i64 3])∧Below w.heap.size w w':=by
 obtain ⟨g,rels⟩:=d
 obtain ⟨ng,rfl,hG⟩:=jE (rels:=rels) (ws:= []) (by rw [gz];exact hok)
 exact rP (vc (d:=((ng:Int),rels)) (fun _=>vq hG hs) h)
end Go.Proofs.Ytfpcfckocmmcnaa
