/- Coset enumeration: new cosets and words that are closed, on lists. No program in sight. -/
import Derived.Test.YtekbhbcgoadciaaPart2
namespace Go.Proofs.Ytekbhbcgoadciaa
def kY (ng:Nat) (im:List (List Int)) (n c g:Nat):List (List Int):=dq (dq (im ++ [List.replicate ng (-1)]) c g n) n g c
def bI (ng:Nat) (im:List (List Int)) (less:List Int) (c g:Nat):List (List Int)×List Int×Bool×Nat:=
 if 0≤bD im c g then (im,less,false,root less (bD im c g).toNat)
 else if less.length=2000 then (im,less,true,0)
 else (kY ng im less.length c g,less ++ [(less.length:Int)],false,less.length)
theorem WF.app {ng:Nat} {im:List (List Int)} {less:List Int} (h:WF ng im less):WF ng (im ++ [List.replicate ng (-1)]) (less ++ [(less.length:Int)]):=
 {len:=by simp [h.len],row:=fun c hc=>by
   by_cases e:c < im.length
   ·rw [dY e];exact h.row c e
   ·obtain rfl:c=im.length:=by simp at hc;omega
    rw [eL];simp,down:=fun c hc=>by
   by_cases e:c < less.length
   ·rw [cx e];exact h.down c e
   ·obtain rfl:c=less.length:=by simp at hc;omega
    rw [dH];omega,bD:=fun c g hc hg=>by
   unfold Proofs.Ytekbhbcgoadciaa.bD
   by_cases e:c < im.length
   ·rw [dY e]
    have:=h.bD c g e hg
    unfold Proofs.Ytekbhbcgoadciaa.bD at this
    simp;omega
   ·obtain rfl:c=im.length:=by simp at hc;omega
    rw [eL,fb hg];omega }
theorem WF.kY {ng:Nat} {im:List (List Int)} {less:List Int} {c g:Nat} (h:WF ng im less) (hc:c < less.length) (hg:g < ng):WF ng (kY ng im less.length c g) (less ++ [(less.length:Int)]):=by
 have h1:=h.app
 have hl:=h.len
 unfold Proofs.Ytekbhbcgoadciaa.kY
 refine (h1.fl (c:=c) (g:=g) (z:=(less.length:Int)) (by simp;omega) hg (by simp;omega)).fl (c:=less.length) (g:=g) (z:=(c:Int)) ?_ hg ?_
 ·rw [cU];simp;omega
 ·simp;omega
theorem fz {ng:Nat} {im:List (List Int)} {less:List Int} {c g:Nat} (h:WF ng im less) (hc:c < less.length) (hg:g < ng) (hn:less.length≤2000):
  WF ng (bI ng im less c g).1 (bI ng im less c g).2.1∧less.length≤(bI ng im less c g).2.1.length∧(bI ng im less c g).2.1.length≤2000∧(bI ng im less c g).2.2.2 < (bI ng im less c g).2.1.length∧((bI ng im less c g).2.2.1=true→(bI ng im less c g).2.1.length=2000):=by
 unfold bI
 split
 ·rename_i h1
  have:=h.bD c g (by rw [h.len];exact hc) hg
  exact ⟨h,Nat.le_refl _,hn,cw h.down (by omega),by simp⟩
 ·split
  ·rename_i h2;exact ⟨h,Nat.le_refl _,hn,by dsimp only;omega,fun _=>h2⟩
  ·exact ⟨h.kY hc hg,by simp,by simp;omega,by simp,by simp⟩
def fO (ng:Nat) (s:List (List Int)×List Int×Bool×Nat):List Nat→List (List Int)×List Int×Bool×Nat
 | []=>s
 | g :: r=>if s.2.2.1=true then s else fO ng (bI ng s.1 s.2.1 s.2.2.2 g) r
def cu (ng:Nat) (im:List (List Int)) (less:List Int) (c:Nat) (w:List Nat):List (List Int)×List Int×Bool:=
 match w.getLast? with
 | none=>(im,less,false)
 | some g=>
  let s:=fO ng (im,less,false,c) w.dropLast
  if s.2.2.1=true then (s.1,s.2.1,true)
  else
   let e:=image s.1 s.2.1 s.2.2.2 g
   let f:=image s.1 s.2.1 c g
   if 0≤e then ((ident ng s.1 s.2.1 [(e,(c:Int))]).1,(ident ng s.1 s.2.1 [(e,(c:Int))]).2,false)
   else if 0≤f then ((ident ng s.1 s.2.1 [(f,(s.2.2.2:Int))]).1,(ident ng s.1 s.2.1 [(f,(s.2.2.2:Int))]).2,false)
   else (dq (dq s.1 s.2.2.2 g c) c g s.2.2.2,s.2.1,false)
theorem fQ {ng:Nat} {s:List (List Int)×List Int×Bool×Nat} (h:s.2.2.1=true):∀w,fO ng s w=s
 | []=>rfl
 | g :: r=>by unfold fO;rw [if_pos h]
theorem kB {ng:Nat} :∀(a b:List Nat) (s:List (List Int)×List Int×Bool×Nat),fO ng s (a ++ b)=fO ng (fO ng s a) b
 | [],b,s=>rfl
 | g :: r,b,s=>by
  simp only [List.cons_append,fO]
  split
  ·rename_i h;rw [fQ h]
  ·exact kB r b _
structure rr (ng n0:Nat) (s:List (List Int)×List Int×Bool×Nat):Prop where
 wf:WF ng s.1 s.2.1
 lo:n0≤s.2.1.length
 hi:s.2.1.length≤2000
 d:s.2.2.2 < s.2.1.length
theorem ll {ng n0:Nat} :∀(w:List Nat) (s:List (List Int)×List Int×Bool×Nat),rr ng n0 s→(∀g∈w,g < ng)→rr ng n0 (fO ng s w)
 | [],s,h,_=>h
 | g :: r,s,h,hg=>by
  unfold fO
  split
  ·exact h
  ·obtain ⟨h1,h2,h3,h4,_⟩:=fz h.wf h.d (hg g (by simp)) h.hi
   exact ll r _ ⟨h1,Nat.le_trans h.lo h2,h3,h4⟩ fun x hx=>hg x (by simp [hx])
theorem jv {ng n:Nat} :∀(f:Nat) (im:List (List Int)) (less:List Int) (q:List (Int×Int)),WF ng im less→less.length=n→kT n q→WF ng (bY ng f im less q).1 (bY ng f im less q).2∧(bY ng f im less q).2.length=n
 | 0,im,less,q,h,hn,_=>⟨h,hn⟩
 | f + 1,im,less, [],h,hn,_=>⟨h,hn⟩
 | f + 1,im,less,p :: q,h,hn,hq=>by
  have hp:=hq p (by simp)
  have hq':kT less.length q:=fun x hx=>hn ▸ hq x (by simp [hx])
  have hr1:=cw h.down (c:=p.1.toNat) (by omega)
  have hr2:=cw h.down (c:=p.2.toNat) (by omega)
  simp only [bY]
  split
  ·exact jv f im less q h hn fun x hx=>hq x (by simp [hx])
  ·obtain ⟨h1,h2,h3,h4⟩:=dO h (lo:=min (root less p.1.toNat) (root less p.2.toNat)) (hi:=max (root less p.1.toNat) (root less p.2.toNat)) (by rw [h.len];omega) (by rw [h.len];omega) hq' ng (Nat.le_refl _)
   exact jv f _ _ _ (h1.je (by omega)) (by rw [List.length_set];exact hn) (hn ▸ h2)
theorem gv {ng n:Nat} {im:List (List Int)} {less:List Int} {q:List (Int×Int)} (h:WF ng im less) (hn:less.length=n) (hq:kT n q):WF ng (ident ng im less q).1 (ident ng im less q).2∧(ident ng im less q).2.length=n:=jv _ _ _ _ h hn hq
theorem dM {ng:Nat} {im:List (List Int)} {less:List Int} {c g:Nat} (h:WF ng im less) (hc:c < less.length) (hg:g < ng):image im less c g < less.length:=by
 unfold image
 split
 ·omega
 ·have:=h.bD c g (by rw [h.len];exact hc) hg
  have:=cw h.down (c:=(bD im c g).toNat) (by omega)
  omega
structure bO (ng n0:Nat) (s:List (List Int)×List Int×Bool):Prop where
 wf:WF ng s.1 s.2.1
 lo:n0≤s.2.1.length
 hi:s.2.1.length≤2000
theorem mP {ng:Nat} {im:List (List Int)} {less:List Int} {c:Nat} {w:List Nat} (h:WF ng im less) (hc:c < less.length) (hn:less.length≤2000) (hg:∀g∈w,g < ng):bO ng less.length (cu ng im less c w):=by
 unfold cu
 cases hw:w.getLast? with
 | none=>exact ⟨h,Nat.le_refl _,hn⟩
 | some g=>
  have hgl:g < ng:=hg g (List.mem_of_getLast? hw)
  have ok:=ll (n0:=less.length) w.dropLast (im,less,false,c) ⟨h,Nat.le_refl _,hn,hc⟩ fun x hx=>hg x (List.dropLast_subset _ hx)
  generalize fO ng (im,less,false,c) w.dropLast=s at *
  have hcs:c < s.2.1.length:=Nat.lt_of_lt_of_le hc ok.lo
  dsimp only
  split
  ·exact ⟨ok.wf,ok.lo,ok.hi⟩
  ·have e1:=dM ok.wf ok.d hgl
   have e2:=dM ok.wf hcs hgl
   have hd:=ok.d
   split
   ·rename_i he
    have:=gv (q:= [(image s.1 s.2.1 s.2.2.2 g,(c:Int))]) ok.wf rfl (fun p hp=>by simp at hp;subst hp;exact ⟨⟨he,e1⟩,by omega,by dsimp only;omega⟩)
    exact ⟨this.1,by dsimp only;rw [this.2];exact ok.lo,by dsimp only;rw [this.2];exact ok.hi⟩
   ·split
    ·rename_i hf
     have:=gv (q:= [(image s.1 s.2.1 c g,(s.2.2.2:Int))]) ok.wf rfl (fun p hp=>by simp at hp;subst hp;exact ⟨⟨hf,e2⟩,by omega,by dsimp only;omega⟩)
     exact ⟨this.1,by dsimp only;rw [this.2];exact ok.lo,by dsimp only;rw [this.2];exact ok.hi⟩
    ·have hl:=ok.wf.len
     exact ⟨(ok.wf.fl (c:=s.2.2.2) (g:=g) (z:=(c:Int)) (by omega) hgl (by omega)).fl (c:=c) (g:=g) (z:=(s.2.2.2:Int)) (by rw [cU];omega) hgl (by omega),ok.lo,ok.hi⟩
end Go.Proofs.Ytekbhbcgoadciaa
namespace Go.Proofs.Ytekbhbcgoadciaa
abbrev dc:=List (List Int)×List Int×Bool
def dX (s:dc) (c:Nat):Bool:=decide (aC s.2.1 c=(c:Int)) && !s.2.2
def cW (ng:Nat) (s:dc) (w:List Int):dc:=if s.2.2=true then s else cu ng s.1 s.2.1 0 (w.map Int.toNat)
def cm (ng c:Nat) (s:dc) (w:List Int):dc:=if dX s c=true then cu ng s.1 s.2.1 c (w.map Int.toNat) else s
def cI (ng c:Nat) (s:dc) (g:Nat):dc:=if dX s c=true then ((bI ng s.1 s.2.1 c g).1,(bI ng s.1 s.2.1 c g).2.1,(bI ng s.1 s.2.1 c g).2.2.1) else s
def dm (ng:Nat) (rels:List (List Int)) (c:Nat) (s:dc):dc:=(List.range ng).foldl (cI ng c) (rels.foldl (cm ng c) s)
def outer (ng:Nat) (rels:List (List Int)):Nat→Nat→dc→dc
 | 0,_,s=>s
 | f + 1,c,s=>if c < s.2.1.length∧s.2.2=false then outer ng rels f (c + 1) (dm ng rels c s) else s
def c6 (ng:Nat):dc:=([List.replicate ng (-1)], [0],false)
def cB (ng:Nat) (rels words:List (List Int)):dc:=outer ng rels 2001 0 (words.foldl (cW ng) (c6 ng))
theorem bO.refl {ng:Nat} {s:dc} (h:WF ng s.1 s.2.1) (hi:s.2.1.length≤2000):bO ng s.2.1.length s:=⟨h,Nat.le_refl _,hi⟩
theorem bO.le {ng n m:Nat} {s:dc} (h:bO ng n s) (hm:m≤n):bO ng m s:=⟨h.wf,Nat.le_trans hm h.lo,h.hi⟩
def a9 (ng:Nat) (w:List Int):Prop:=∀z∈w,0≤z∧z < ng
theorem a9.nat {ng:Nat} {w:List Int} (h:a9 ng w):∀g∈w.map Int.toNat,g < ng:=fun g hg=>by
 obtain ⟨z,hz,rfl⟩:=List.mem_map.1 hg
 have:=h z hz;omega
theorem jo {ng n:Nat} {s:dc} {w:List Int} (h:bO ng n s) (hn:0 < n) (hw:a9 ng w):bO ng n (cW ng s w):=by
 unfold cW
 split
 ·exact h
 ·exact (mP h.wf (Nat.lt_of_lt_of_le hn h.lo) h.hi hw.nat).le h.lo
theorem gP {ng n c:Nat} {s:dc} {w:List Int} (h:bO ng n s) (hn:c < n) (hw:a9 ng w):bO ng n (cm ng c s w):=by
 unfold cm
 split
 ·exact (mP h.wf (Nat.lt_of_lt_of_le hn h.lo) h.hi hw.nat).le h.lo
 ·exact h
theorem jm {ng n c g:Nat} {s:dc} (h:bO ng n s) (hn:c < n) (hg:g < ng):bO ng n (cI ng c s g):=by
 unfold cI
 split
 ·obtain ⟨h1,h2,h3,_⟩:=fz h.wf (Nat.lt_of_lt_of_le hn h.lo) hg h.hi
  exact ⟨h1,Nat.le_trans h.lo h2,h3⟩
 ·exact h
theorem jl {α:Type} {ng n:Nat} {f:dc→α→dc} {p:α→Prop} (hf:∀s x,bO ng n s→p x→bO ng n (f s x)):∀(l:List α) (s:dc),bO ng n s→(∀x∈l,p x)→bO ng n (l.foldl f s)
 | [],s,h,_=>h
 | x :: r,s,h,hp=>jl hf r _ (hf s x h (hp x (by simp))) fun y hy=>hp y (by simp [hy])
theorem qP {ng n c:Nat} {rels:List (List Int)} {s:dc} (h:bO ng n s) (hn:c < n) (hr:∀w∈rels,a9 ng w):bO ng n (dm ng rels c s):=
 jl (p:=fun g=>g < ng) (fun s g h hg=>jm h hn hg) _ _ (jl (p:=a9 ng) (fun s w h hw=>gP h hn hw) _ _ h hr) fun g hg=>List.mem_range.1 hg
theorem sy {ng n:Nat} {rels:List (List Int)} (hr:∀w∈rels,a9 ng w):∀(f c:Nat) (s:dc),bO ng n s→bO ng n (outer ng rels f c s)
 | 0,_,s,h=>h
 | f + 1,c,s,h=>by
  unfold outer
  split
  ·rename_i hc
   exact sy hr f _ _ ((qP (n:=s.2.1.length) ⟨h.wf,Nat.le_refl _,h.hi⟩ hc.1 hr).le h.lo)
  ·exact h
theorem gS (ng:Nat):bO ng 1 (c6 ng):=by
 refine ⟨{ len:=rfl,row:=fun c hc=> ?_,down:=fun c hc=> ?_,bD:=fun c g hc hg=> ?_ },Nat.le_refl _,by simp [c6]⟩
 ·obtain rfl:c=0:=by simp [c6] at hc;omega
  simp [c6,bu]
 ·obtain rfl:c=0:=by simp [c6] at hc;omega
  simp [c6,aC]
 ·obtain rfl:c=0:=by simp [c6] at hc;omega
  simp [c6,bD,bu,aC,hg]
theorem re {ng:Nat} {rels words:List (List Int)} (hr:∀w∈rels,a9 ng w) (hw:∀w∈words,a9 ng w):bO ng 1 (cB ng rels words):=
 sy hr _ _ _ (jl (p:=a9 ng) (fun s w h hw=>jo h (by omega) hw) _ _ (gS ng) hw)
theorem lu {α:Type} {f:dc→α→dc} {s:dc} (h:∀x,f s x=s):∀l:List α,l.foldl f s=s
 | []=>rfl
 | x :: r=>by rw [List.foldl_cons,h,lu h r]
theorem gf {ng:Nat} {s:dc} (h:s.2.2=true) (w:List Int):cW ng s w=s:=if_pos h
theorem gn {ng c:Nat} {s:dc} (h:dX s c=false) (w:List Int):cm ng c s w=s:=if_neg (by simp [h])
theorem ir {ng c:Nat} {s:dc} (h:dX s c=false) (g:Nat):cI ng c s g=s:=if_neg (by simp [h])
theorem oG {ng c g:Nat} {s s':dc} (h:(List.range g).foldl (cI ng c) s=s') (hl:dX s' c=false):∀n,g≤n→(List.range n).foldl (cI ng c) s=s'
 | 0,hn=>by
   obtain rfl:g=0:=by omega
   exact h
 | n + 1,hn=>by
  by_cases e:g=n + 1
  ·subst e;exact h
  ·rw [List.range_succ,List.foldl_append,oG h hl n (by omega)]
   exact ir hl n
theorem xm {ng c j:Nat} {rels:List (List Int)} {s s':dc} (h:(rels.take j).foldl (cm ng c) s=s') (hl:dX s' c=false):rels.foldl (cm ng c) s=s':=by
 conv=>lhs;rw [←List.take_append_drop j rels,List.foldl_append,h]
 exact lu (gn hl) _
theorem tV {ng j:Nat} {words:List (List Int)} {s s':dc} (h:(words.take j).foldl (cW ng) s=s') (hl:s'.2.2=true):words.foldl (cW ng) s=s':=by
 conv=>lhs;rw [←List.take_append_drop j words,List.foldl_append,h]
 exact lu (gf hl) _
end Go.Proofs.Ytekbhbcgoadciaa
namespace Go.Proofs.Ytekbhbcgoadciaa
structure Grow (ng:Nat) (im:List (List Int)) (less:List Int) (im':List (List Int)) (less':List Int):Prop where
 len:less.length≤less'.length
 bD:∀c g,c < less.length→g < ng→0≤bD im c g→0≤bD im' c g
 dead:∀c,c < less.length→aC less c≠c→aC less' c≠c
theorem Grow.refl (ng:Nat) (im:List (List Int)) (less:List Int):Grow ng im less im less:=⟨Nat.le_refl _,fun _ _ _ _ h=>h,fun _ _ h=>h⟩
theorem Grow.trans {ng:Nat} {a b c:List (List Int)} {x y z:List Int} (h:Grow ng a x b y) (k:Grow ng b y c z):Grow ng a x c z:=
 ⟨Nat.le_trans h.len k.len,fun i g hi hg h1=>k.bD i g (Nat.lt_of_lt_of_le hi h.len) hg (h.bD i g hi hg h1),fun i hi h1=>k.dead i (Nat.lt_of_lt_of_le hi h.len) (h.dead i hi h1)⟩
theorem WF.ku {ng:Nat} {im:List (List Int)} {less:List Int} (h:WF ng im less) {c g:Nat} {z:Int} (hc:c < im.length) (hg:g < ng) (hz:0≤z):Grow ng im less (dq im c g z) less:=
 ⟨Nat.le_refl _,fun i j _ _ h1=>by
  rw [dN hc (by rw [h.row c hc];exact hg)]
  split
  ·exact hz
  ·exact h1,fun _ _ h=>h⟩
theorem WF.yd {ng:Nat} {im:List (List Int)} {less:List Int} (h:WF ng im less) (r:List Int) (z:Int):Grow ng im less (im ++ [r]) (less ++ [z]):=
 ⟨by simp,fun i j hi _ h1=>by
  have hi':i < im.length:=by rw [h.len];exact hi
  unfold Proofs.Ytekbhbcgoadciaa.bD at h1 ⊢
  rw [dY hi'];exact h1,fun i hi h1=>by rw [cx hi];exact h1⟩
theorem pI {ng:Nat} {im:List (List Int)} {less:List Int} {c g:Nat} (h:WF ng im less) (hc:c < less.length) (hg:g < ng):Grow ng im less (bI ng im less c g).1 (bI ng im less c g).2.1:=by
 unfold bI
 split
 ·exact Grow.refl _ _ _
 ·split
  ·exact Grow.refl _ _ _
  ·have h1:=h.app
   have hl:=h.len
   have g1:=h.yd (List.replicate ng (-1)) (less.length:Int)
   have h2:=h1.fl (c:=c) (g:=g) (z:=(less.length:Int)) (by simp;omega) hg (by simp;omega)
   have g2:=h1.ku (c:=c) (g:=g) (z:=(less.length:Int)) (by simp;omega) hg (by omega)
   have g3:=h2.ku (c:=less.length) (g:=g) (z:=(c:Int)) (by rw [cU];simp;omega) hg (by omega)
   exact (g1.trans g2).trans g3
theorem xF {ng:Nat} {im:List (List Int)} {less:List Int} {c g:Nat} (h:WF ng im less) (hc:c < less.length) (hg:g < ng) (hf:(bI ng im less c g).2.2.1=false):0≤bD (bI ng im less c g).1 c g:=by
 unfold bI at hf ⊢
 split
 ·rename_i h0;exact h0
 ·rename_i h0
  rw [if_neg h0] at hf
  split
  ·rename_i h1;rw [if_pos h1] at hf;cases hf
  ·have h1:=h.app
   have hl:=h.len
   have h2:=h1.fl (c:=c) (g:=g) (z:=(less.length:Int)) (by simp;omega) hg (by simp;omega)
   unfold kY
   dsimp only
   rw [dN (by rw [cU];simp;omega) (by rw [h2.row _ (by rw [cU];simp;omega)];exact hg)]
   split
   ·omega
   ·rw [dN (by simp;omega) (by rw [h1.row _ (by simp;omega)];exact hg),if_pos ⟨rfl,rfl⟩];omega
theorem tX {ng n0:Nat} :∀(w:List Nat) (s:List (List Int)×List Int×Bool×Nat),rr ng n0 s→(∀g∈w,g < ng)→Grow ng s.1 s.2.1 (fO ng s w).1 (fO ng s w).2.1
 | [],s,_,_=>Grow.refl _ _ _
 | g :: r,s,h,hg=>by
  unfold fO
  split
  ·exact Grow.refl _ _ _
  ·have k:=pI h.wf h.d (hg g (by simp))
   obtain ⟨h1,h2,h3,h4,_⟩:=fz h.wf h.d (hg g (by simp)) h.hi
   exact k.trans (tX (n0:=n0) r _ ⟨h1,Nat.le_trans h.lo h2,h3,h4⟩ fun x hx=>hg x (by simp [hx]))
theorem l0 {ng lo hi:Nat} {im:List (List Int)} {less:List Int} {q:List (Int×Int)} (h:WF ng im less) (hlo:lo < im.length) (hhi:hi < im.length) (hq:kT less.length q):∀g,g≤ng→Grow ng im less (bm lo hi (im,q) g).1 less
 | 0,_=>Grow.refl _ _ _
 | g + 1,hg=>by
  have ih:=l0 h hlo hhi hq g (by omega)
  obtain ⟨h1,_,_,h4⟩:=dO h hlo hhi hq g (by omega)
  simp only [bm,stepG]
  split
  ·exact ih
  ·rename_i hn
   split
   ·exact ih
   ·exact ih.trans (h1.ku (by omega) (by omega) (by omega))
theorem xC {ng:Nat} {im:List (List Int)} {less:List Int} {lo hi:Nat} (h:lo < hi):Grow ng im less im (less.set hi (lo:Int)):=
 ⟨by simp,fun _ _ _ _ h=>h,fun c hc h1=>by
  rw [ck]
  split
  ·rename_i e;rw [←e.1];omega
  ·exact h1⟩
theorem fF {ng n:Nat} :∀(f:Nat) (im:List (List Int)) (less:List Int) (q:List (Int×Int)),WF ng im less→less.length=n→kT n q→Grow ng im less (bY ng f im less q).1 (bY ng f im less q).2
 | 0,im,less,q,h,hn,_=>Grow.refl _ _ _
 | f + 1,im,less, [],h,hn,_=>Grow.refl _ _ _
 | f + 1,im,less,p :: q,h,hn,hq=>by
  have hp:=hq p (by simp)
  have hq':kT less.length q:=fun x hx=>hn ▸ hq x (by simp [hx])
  have hr1:=cw h.down (c:=p.1.toNat) (by omega)
  have hr2:=cw h.down (c:=p.2.toNat) (by omega)
  simp only [bY]
  split
  ·exact fF f im less q h hn fun x hx=>hq x (by simp [hx])
  ·rename_i hne
   obtain ⟨h1,h2,h3,h4⟩:=dO h (lo:=min (root less p.1.toNat) (root less p.2.toNat)) (hi:=max (root less p.1.toNat) (root less p.2.toNat)) (by rw [h.len];omega) (by rw [h.len];omega) hq' ng (Nat.le_refl _)
   have g1:=l0 h (lo:=min (root less p.1.toNat) (root less p.2.toNat)) (hi:=max (root less p.1.toNat) (root less p.2.toNat)) (by rw [h.len];omega) (by rw [h.len];omega) hq' ng (Nat.le_refl _)
   refine (g1.trans (xC (by omega))).trans (fF f _ _ _ (h1.je (by omega)) (by rw [List.length_set];exact hn) (hn ▸ h2))
theorem sL {ng:Nat} {im:List (List Int)} {less:List Int} {c:Nat} {w:List Nat} (h:WF ng im less) (hc:c < less.length) (hn:less.length≤2000) (hg:∀g∈w,g < ng):Grow ng im less (cu ng im less c w).1 (cu ng im less c w).2.1:=by
 unfold cu
 cases hw:w.getLast? with
 | none=>exact Grow.refl _ _ _
 | some g=>
  have hgl:g < ng:=hg g (List.mem_of_getLast? hw)
  have ok:=ll (n0:=less.length) w.dropLast (im,less,false,c) ⟨h,Nat.le_refl _,hn,hc⟩ fun x hx=>hg x (List.dropLast_subset _ hx)
  have gr:=tX (n0:=less.length) w.dropLast (im,less,false,c) ⟨h,Nat.le_refl _,hn,hc⟩ fun x hx=>hg x (List.dropLast_subset _ hx)
  generalize fO ng (im,less,false,c) w.dropLast=s at *
  have hcs:c < s.2.1.length:=Nat.lt_of_lt_of_le hc ok.lo
  have gr:Grow ng im less s.1 s.2.1:=gr
  dsimp only
  split
  ·exact gr
  ·have e1:=dM ok.wf ok.d hgl
   have e2:=dM ok.wf hcs hgl
   have hd:=ok.d
   have hl:=ok.wf.len
   split
   ·rename_i he
    exact gr.trans (fF _ _ _ _ ok.wf rfl (fun p hp=>by simp at hp;subst hp;exact ⟨⟨he,e1⟩,by omega,by dsimp only;omega⟩))
   ·split
    ·rename_i hf
     exact gr.trans (fF _ _ _ _ ok.wf rfl (fun p hp=>by simp at hp;subst hp;exact ⟨⟨hf,e2⟩,by omega,by dsimp only;omega⟩))
    ·have k1:=ok.wf.fl (c:=s.2.2.2) (g:=g) (z:=(c:Int)) (by omega) hgl (by omega)
     exact (gr.trans (ok.wf.ku (c:=s.2.2.2) (g:=g) (z:=(c:Int)) (by omega) hgl (by omega))).trans (k1.ku (c:=c) (g:=g) (z:=(s.2.2.2:Int)) (by rw [cU];omega) hgl (by omega))
def Dn (ng:Nat) (s:dc) (c:Nat):Prop:=aC s.2.1 c≠(c:Int)∨∀g,g < ng→0≤bD s.1 c g
abbrev mW (ng:Nat) (s s':dc):Prop:=Grow ng s.1 s.2.1 s'.1 s'.2.1
theorem Grow.dn {ng:Nat} {s s':dc} {c:Nat} (h:mW ng s s') (hc:c < s.2.1.length) (hd:Dn ng s c):Dn ng s' c:=
 hd.imp (h.dead c hc) fun hd g hg=>h.bD c g hc hg (hd g hg)
theorem uf {ng n c:Nat} {s:dc} {w:List Int} (h:bO ng n s) (hn:c < n) (hw:a9 ng w):mW ng s (cm ng c s w):=by
 unfold cm
 split
 ·exact sL h.wf (Nat.lt_of_lt_of_le hn h.lo) h.hi hw.nat
 ·exact Grow.refl _ _ _
theorem uP {ng n c g:Nat} {s:dc} (h:bO ng n s) (hn:c < n) (hg:g < ng):mW ng s (cI ng c s g):=by
 unfold cI
 split
 ·exact pI h.wf (Nat.lt_of_lt_of_le hn h.lo) hg
 ·exact Grow.refl _ _ _
theorem pg {α:Type} {ng n:Nat} {f:dc→α→dc} {p:α→Prop} (hf:∀s x,bO ng n s→p x→bO ng n (f s x)) (hg:∀s x,bO ng n s→p x→mW ng s (f s x)):∀(l:List α) (s:dc),bO ng n s→(∀x∈l,p x)→mW ng s (l.foldl f s)
 | [],s,_,_=>Grow.refl _ _ _
 | x :: r,s,h,hp=>(hg s x h (hp x (by simp))).trans (pg hf hg r _ (hf s x h (hp x (by simp))) fun y hy=>hp y (by simp [hy]))
theorem qd {ng n c:Nat} {s:dc} (h:bO ng n s) (hn:c < n):∀m,m≤ng→bO ng n ((List.range m).foldl (cI ng c) s)∧mW ng s ((List.range m).foldl (cI ng c) s)∧(((List.range m).foldl (cI ng c) s).2.2=false→
  aC ((List.range m).foldl (cI ng c) s).2.1 c≠(c:Int)∨∀g,g < m→0≤bD ((List.range m).foldl (cI ng c) s).1 c g)
 | 0,_=>⟨h,Grow.refl _ _ _,fun _=> .inr fun g hg=>by omega⟩
 | m + 1,hm=>by
  obtain ⟨h1,h2,h3⟩:=qd h hn m (by omega)
  rw [List.range_succ,List.foldl_append]
  generalize (List.range m).foldl (cI ng c) s=t at *
  show bO ng n (cI ng c t m)∧mW ng s (cI ng c t m)∧((cI ng c t m).2.2=false→aC (cI ng c t m).2.1 c≠(c:Int)∨∀g,g < m + 1→0≤bD (cI ng c t m).1 c g)
  have g1:=uP (g:=m) h1 hn (by omega)
  refine ⟨jm h1 hn (by omega),h2.trans g1,fun hf=> ?_⟩
  have hct:c < t.2.1.length:=Nat.lt_of_lt_of_le hn h1.lo
  cases hl:dX t c with
  | false=>
   rw [ir hl] at hf ⊢
   left
   unfold dX at hl
   rw [hf] at hl
   simpa using hl
  | true=>
   have hlv:aC t.2.1 c=(c:Int)∧t.2.2=false:=by unfold dX at hl;simpa using hl
   rcases h3 hlv.2 with h4 | h4
   ·exact absurd hlv.1 h4
   ·by_cases e:aC (cI ng c t m).2.1 c=(c:Int)
    ·right
     intro g hg
     by_cases e2:g=m
     ·subst e2
      unfold cI at hf ⊢
      rw [if_pos hl] at hf ⊢
      exact xF h1.wf hct (by omega) hf
     ·exact g1.bD c g hct (by omega) (h4 g (by omega))
    ·exact .inl e
theorem te {ng n c:Nat} {rels:List (List Int)} {s:dc} (h:bO ng n s) (hn:c < n) (hr:∀w∈rels,a9 ng w):mW ng s (dm ng rels c s)∧((dm ng rels c s).2.2=false→Dn ng (dm ng rels c s) c):=by
 have h1:=jl (p:=a9 ng) (fun s w h hw=>gP h hn hw) rels s h hr
 have g1:=pg (p:=a9 ng) (fun s w h hw=>gP h hn hw) (fun s w h hw=>uf h hn hw) rels s h hr
 obtain ⟨_,g2,h3⟩:=qd h1 hn ng (Nat.le_refl _)
 exact ⟨g1.trans g2,h3⟩
theorem fI {ng:Nat} {rels:List (List Int)} {s:dc} (h:s.2.2=true):∀f c,outer ng rels f c s=s
 | 0,_=>rfl
 | f + 1,c=>by unfold outer;rw [if_neg (by rw [h];simp)]
theorem oq {ng:Nat} {rels:List (List Int)} (hr:∀w∈rels,a9 ng w):∀(f c:Nat) (s:dc),bO ng 1 s→2001≤f + c→c≤s.2.1.length→(∀i,i < c→Dn ng s i)→(outer ng rels f c s).2.2=false→∀i,i < (outer ng rels f c s).2.1.length→Dn ng (outer ng rels f c s) i
 | 0,c,s,h,hf,hc,_,_=>by have:=h.hi;omega
 | f + 1,c,s,h,hf,hc,hd,hnf=>by
  unfold outer at hnf ⊢
  by_cases hcond:c < s.2.1.length∧s.2.2=false
  ·rw [if_pos hcond] at hnf ⊢
   have hk:=qP (n:=s.2.1.length) ⟨h.wf,Nat.le_refl _,h.hi⟩ hcond.1 hr
   obtain ⟨g1,d1⟩:=te (n:=s.2.1.length) ⟨h.wf,Nat.le_refl _,h.hi⟩ hcond.1 hr
   have hnf1:(dm ng rels c s).2.2=false:=by
    cases e:(dm ng rels c s).2.2 with
    | false=>rfl
    | true=>rw [fI e,e] at hnf;cases hnf
   refine oq hr f (c + 1) _ (hk.le h.lo) (by omega) (by have:=g1.len;omega) (fun i hi=> ?_) hnf
   by_cases e:i=c
   ·subst e;exact d1 hnf1
   ·exact g1.dn (by omega) (hd i (by omega))
  ·rw [if_neg hcond] at hnf ⊢
   intro i hi
   refine hd i ?_
   by_cases e:c < s.2.1.length
   ·exact absurd ⟨e,hnf⟩ hcond
   ·omega
theorem xy {ng:Nat} {rels words:List (List Int)} (hr:∀w∈rels,a9 ng w) (hw:∀w∈words,a9 ng w) (hnf:(cB ng rels words).2.2=false):∀c,c < (cB ng rels words).2.1.length→Dn ng (cB ng rels words) c:=
 oq hr _ _ _ (jl (p:=a9 ng) (fun s w h hw=>jo h (by omega) hw) _ _ (gS ng) hw) (Nat.le_refl _) (Nat.zero_le _) (fun i hi=>by omega) hnf
end Go.Proofs.Ytekbhbcgoadciaa
namespace Go.Proofs.Ytekbhbcgoadciaa
abbrev iE:=List Int×List Int
def visit (s:iE) (d:Nat):iE:=if aC s.2 d < 0 then (s.1 ++ [(d:Int)],s.2.set d (s.1.length:Int)) else s
def cQ (im:List (List Int)) (less:List Int) (i:Nat) (s:iE) (g:Nat):iE:=visit s (image im less (aC s.1 i).toNat g).toNat
def kt (ng:Nat) (im:List (List Int)) (less:List Int) (i:Nat) (s:iE):iE:=(List.range ng).foldl (cQ im less i) s
def cM (ng:Nat) (im:List (List Int)) (less:List Int):Nat→Nat→iE→iE
 | 0,_,s=>s
 | f + 1,i,s=>if i < s.1.length then cM ng im less f (i + 1) (kt ng im less i s) else s
def dv (n:Nat):iE:=([0],(List.replicate n (-1)).set 0 0)
def bS (ng:Nat) (im:List (List Int)) (less:List Int):iE:=cM ng im less (less.length + 1) 0 (dv less.length)
def cF (ng:Nat) (im:List (List Int)) (less:List Int):List (List Int):=
 (List.range ng).map fun g=>(bS ng im less).1.map fun c=>aC (bS ng im less).2 (image im less c.toNat g).toNat
def wm (l:List Int):Nat:=(l.filter fun z=>decide (0≤z)).length
theorem BU (l:List Int):wm l≤l.length:=List.length_filter_le _ _
theorem sa:∀(l:List Int) (d:Nat) (z:Int),d < l.length→aC l d < 0→0≤z→wm (l.set d z)=wm l + 1
 | [],d,z,h,_,_=>by simp at h
 | x :: r,0,z,_,h,hz=>by
  have h:x < 0:=by simpa [aC] using h
  simp [wm,show ¬0≤x by omega,hz]
 | x :: r,d + 1,z,hd,h,hz=>by
  have ih:=sa r d z (by simpa using hd) (by simpa [aC] using h) hz
  unfold wm at ih ⊢
  simp only [List.set_cons_succ,List.filter_cons]
  split
  ·simp only [List.length_cons];omega
  ·exact ih
structure Full (ng:Nat) (im:List (List Int)) (less:List Int):Prop where
 wf:WF ng im less
 pos:0 < less.length
 full:∀c,c < less.length→aC less c=(c:Int)→∀g,g < ng→0≤bD im c g
theorem Full.zero {ng:Nat} {im:List (List Int)} {less:List Int} (h:Full ng im less):aC less 0=((0:Nat):Int):=by
 have:=h.wf.down 0 h.pos;omega
theorem Full.image {ng:Nat} {im:List (List Int)} {less:List Int} (h:Full ng im less) {c g:Nat} (hc:c < less.length) (hl:aC less c=(c:Int)) (hg:g < ng):
  ∃d:Nat,image im less c g=(d:Int)∧d < less.length∧aC less d=(d:Int):=by
 have h1:=h.full c hc hl g hg
 have h2:=h.wf.bD c g (by rw [h.wf.len];exact hc) hg
 refine ⟨root less (bD im c g).toNat,by unfold Proofs.Ytekbhbcgoadciaa.image;rw [if_neg (by omega)],cw h.wf.down (by omega), ?_⟩
 exact (dJ h.wf.down _ (by omega)).1
structure nI (n:Nat) (less:List Int) (s:iE):Prop where
 len:s.2.length=n
 wm:wm s.2=s.1.length
 live:∀k,k < s.1.length→∃d:Nat,aC s.1 k=(d:Int)∧d < n∧aC less d=(d:Int)∧aC s.2 d=(k:Int)
 num:∀d,d < n→0≤aC s.2 d→aC s.2 d < s.1.length
theorem nI.le {n:Nat} {less:List Int} {s:iE} (h:nI n less s):s.1.length≤n:=by
 have:=BU s.2;rw [h.wm,h.len] at this;exact this
theorem yQ {n:Nat} {less:List Int} {s:iE} {d:Nat} (h:nI n less s) (hd:d < n) (hl:aC less d=(d:Int)):nI n less (visit s d):=by
 unfold visit
 split
 ·rename_i hn
  refine ⟨by rw [List.length_set];exact h.len, ?_,fun k hk=> ?_,fun e he h0=> ?_⟩
  ·dsimp only;rw [sa _ _ _ (by rw [h.len];exact hd) hn (by omega),h.wm];simp
  ·dsimp only at hk ⊢
   by_cases e:k < s.1.length
   ·obtain ⟨d',h1,h2,h3,h4⟩:=h.live k e
    refine ⟨d',by rw [cx e];exact h1,h2,h3, ?_⟩
    rw [ck]
    split
    ·rename_i e2;rw [e2.1] at hn;omega
    ·exact h4
   ·obtain rfl:k=s.1.length:=by simp at hk;omega
    exact ⟨d,dH,hd,hl,by rw [ck,if_pos ⟨rfl,by rw [h.len];exact hd⟩]⟩
  ·dsimp only at h0 ⊢
   rw [ck] at h0 ⊢
   rw [List.length_append]
   split
   ·simp;omega
   ·rename_i hne
    rw [if_neg hne] at h0
    have:=h.num e he h0
    simp;omega
 ·exact h
structure gG (s s':iE):Prop where
 pre:∀k,k < s.1.length→aC s'.1 k=aC s.1 k
 len:s.1.length≤s'.1.length
 num:∀d,0≤aC s.2 d→aC s'.2 d=aC s.2 d
theorem gG.refl (s:iE):gG s s:=⟨fun _ _=>rfl,Nat.le_refl _,fun _ _=>rfl⟩
theorem gG.trans {a b c:iE} (h:gG a b) (k:gG b c):gG a c:=
 ⟨fun i hi=>(k.pre i (Nat.lt_of_lt_of_le hi h.len)).trans (h.pre i hi),Nat.le_trans h.len k.len,fun d hd=>(k.num d (by rw [h.num d hd];exact hd)).trans (h.num d hd)⟩
theorem ix (s:iE) (d:Nat):gG s (visit s d):=by
 unfold visit
 split
 ·rename_i hn
  refine ⟨fun k hk=>cx hk,by simp,fun e he=> ?_⟩
  dsimp only
  rw [ck,if_neg]
  rintro ⟨rfl,_⟩
  omega
 ·exact gG.refl s
theorem qn {n:Nat} {less:List Int} {s:iE} {d:Nat} (h:nI n less s) (hd:d < n):0≤aC (visit s d).2 d:=by
 unfold visit
 split
 ·dsimp only;rw [ck,if_pos ⟨rfl,by rw [h.len];exact hd⟩];omega
 ·rename_i hn;omega
theorem xN {ng:Nat} {im:List (List Int)} {less:List Int} (hF:Full ng im less) {i g:Nat} {s:iE} (h:nI less.length less s) (hi:i < s.1.length) (hg:g < ng):
  nI less.length less (cQ im less i s g)∧gG s (cQ im less i s g)∧0≤aC (cQ im less i s g).2 (image im less (aC s.1 i).toNat g).toNat:=by
 obtain ⟨d,h1,h2,h3,_⟩:=h.live i hi
 obtain ⟨e,e1,e2,e3⟩:=hF.image h2 h3 hg
 unfold cQ
 rw [h1,Int.toNat_natCast,e1,Int.toNat_natCast]
 exact ⟨yQ h e2 e3,ix s e,qn h e2⟩
theorem eN {ng:Nat} {im:List (List Int)} {less:List Int} (hF:Full ng im less) {i:Nat} {s:iE} (h:nI less.length less s) (hi:i < s.1.length):∀m,m≤ng→
  nI less.length less ((List.range m).foldl (cQ im less i) s)∧gG s ((List.range m).foldl (cQ im less i) s)∧∀g,g < m→0≤aC ((List.range m).foldl (cQ im less i) s).2 (image im less (aC s.1 i).toNat g).toNat
 | 0,_=>⟨h,gG.refl s,fun g hg=>by omega⟩
 | m + 1,hm=>by
  obtain ⟨h1,h2,h3⟩:=eN hF h hi m (by omega)
  rw [List.range_succ,List.foldl_append]
  generalize (List.range m).foldl (cQ im less i) s=t at *
  obtain ⟨k1,k2,k3⟩:=xN hF (i:=i) (g:=m) h1 (Nat.lt_of_lt_of_le hi h2.len) (by omega)
  rw [h2.pre i hi] at k3
  refine ⟨k1,h2.trans k2,fun g hg=> ?_⟩
  by_cases e:g=m
  ·subst e;exact k3
  ·have:=h3 g (by omega)
   show 0≤aC (cQ im less i t m).2 _
   rw [k2.num _ this];exact this
def Seen (ng:Nat) (im:List (List Int)) (less:List Int) (i:Nat) (s:iE):Prop:=∀k,k < i→∀g,g < ng→0≤aC s.2 (image im less (aC s.1 k).toNat g).toNat
theorem Seen.row {ng:Nat} {im:List (List Int)} {less:List Int} (hF:Full ng im less) {i:Nat} {s:iE} (h:nI less.length less s) (hi:i < s.1.length) (hs:Seen ng im less i s):Seen ng im less (i + 1) (kt ng im less i s):=by
 obtain ⟨_,h2,h3⟩:=eN hF h hi ng (Nat.le_refl _)
 intro k hk g hg
 show 0≤aC (kt ng im less i s).2 _
 have e:aC (kt ng im less i s).1 k=aC s.1 k:=h2.pre k (by omega)
 rw [e]
 by_cases e2:k=i
 ·subst e2;exact h3 g hg
 ·have:=hs k (by omega) g hg
  have e3:=h2.num _ this
  unfold kt
  rw [e3];exact this
theorem n4 {ng:Nat} {im:List (List Int)} {less:List Int} (hF:Full ng im less):∀(f i:Nat) (s:iE),nI less.length less s→Seen ng im less i s→i≤s.1.length→less.length + 1≤f + i→
  nI less.length less (cM ng im less f i s)∧Seen ng im less (cM ng im less f i s).1.length (cM ng im less f i s)
 | 0,i,s,h,hs,hi,hf=>by have:=h.le;omega
 | f + 1,i,s,h,hs,hi,hf=>by
  unfold cM
  split
  ·rename_i hlt
   obtain ⟨h1,h2,_⟩:=eN hF h hlt ng (Nat.le_refl _)
   exact n4 hF f (i + 1) _ h1 (hs.row hF h hlt) (Nat.le_trans hlt h2.len) (by omega)
  ·rename_i hlt
   obtain rfl:i=s.1.length:=by omega
   exact ⟨h,hs⟩
theorem vQ:∀n,wm (List.replicate n (-1))=0
 | 0=>rfl
 | n + 1=>by have:=vQ n;unfold wm at this ⊢;rw [List.replicate_succ,List.filter_cons,if_neg (by decide)];exact this
theorem gh {ng:Nat} {im:List (List Int)} {less:List Int} (hF:Full ng im less):nI less.length less (dv less.length):=by
 have hp:=hF.pos
 have hr:∀d,d < less.length→aC (List.replicate less.length (-1)) d= -1:=fun d hd=>fb hd
 refine ⟨by simp [dv], ?_,fun k hk=> ?_,fun d hd h0=> ?_⟩
 ·show wm ((List.replicate less.length (-1)).set 0 0)=1
  rw [sa _ _ _ (by simpa using hp) (by rw [hr 0 hp];decide) (by decide),vQ]
 ·obtain rfl:k=0:=by simp [dv] at hk;omega
  exact ⟨0,rfl,hp,hF.zero,by show aC ((List.replicate less.length (-1)).set 0 0) 0=_;rw [ck,if_pos ⟨rfl,by simpa using hp⟩];rfl⟩
 ·have h0:0≤aC ((List.replicate less.length (-1)).set 0 0) d:=h0
  show aC ((List.replicate less.length (-1)).set 0 0) d < ((1:Nat):Int)
  rw [ck] at h0 ⊢
  split
  ·decide
  ·rename_i hne;rw [if_neg hne,hr d hd] at h0;omega
theorem iJ {ng:Nat} {im:List (List Int)} {less:List Int} (hF:Full ng im less):nI less.length less (bS ng im less)∧Seen ng im less (bS ng im less).1.length (bS ng im less):=
 n4 hF _ _ _ (gh hF) (fun k hk=>by omega) (Nat.zero_le _) (by omega)
theorem ja {ng:Nat} {rels words:List (List Int)} (hr:∀w∈rels,a9 ng w) (hw:∀w∈words,a9 ng w) (hnf:(cB ng rels words).2.2=false):Full ng (cB ng rels words).1 (cB ng rels words).2.1:=
 ⟨(re hr hw).wf,(re hr hw).lo,fun c hc hl g hg=>(xy hr hw hnf c hc).elim (fun h=>absurd hl h) fun h=>h g hg⟩
theorem rW {ng:Nat} {im:List (List Int)} {less:List Int} (hF:Full ng im less) {k g:Nat} (hk:k < (bS ng im less).1.length) (hg:g < ng):
  0≤aC (bS ng im less).2 (image im less (aC (bS ng im less).1 k).toNat g).toNat∧aC (bS ng im less).2 (image im less (aC (bS ng im less).1 k).toNat g).toNat < (bS ng im less).1.length:=by
 obtain ⟨h,hs⟩:=iJ hF
 have h0:=hs k hk g hg
 obtain ⟨d,h1,h2,h3,_⟩:=h.live k hk
 obtain ⟨e,e1,e2,_⟩:=hF.image h2 h3 hg
 rw [h1,Int.toNat_natCast,e1,Int.toNat_natCast] at h0 ⊢
 exact ⟨h0,h.num e e2 h0⟩
end Go.Proofs.Ytekbhbcgoadciaa
namespace Go.Proofs.Ytekbhbcgoadciaa
theorem fX {less:List Int} (h:Down less) {c:Nat} (hc:c < less.length):root less (root less c)=root less c:=cD (dJ h c hc).1
theorem oY {less:List Int} (h:Down less) {lo hi:Nat} (hlt:lo < hi) (hh:hi < less.length) (hl0:aC less lo=(lo:Int)) (hh0:aC less hi=(hi:Int)):∀c,c < less.length→root (less.set hi (lo:Int)) c=if root less c=hi then lo else root less c:=by
 have hd:=oL h (lo:=lo) (hi:=hi) (by omega)
 have hlo:aC (less.set hi (lo:Int)) lo=(lo:Int):=by rw [ck,if_neg (by omega)];exact hl0
 intro c
 induction c using Nat.strongRecOn with
 | _ c ih=>
  intro hc
  by_cases e:aC less c=(c:Int)
  ·rw [cD e]
   by_cases e2:c=hi
   ·subst e2
    rw [if_pos rfl]
    have h1:aC (less.set c (lo:Int)) c=(lo:Int):=by rw [ck,if_pos ⟨rfl,hh⟩]
    rw [eM hd (by rw [List.length_set];exact hc) (by rw [h1];omega),h1,Int.toNat_natCast]
    exact cD hlo
   ·rw [if_neg e2]
    exact cD (by rw [ck,if_neg (by omega)];exact e)
  ·have hb:=h c hc
   have hne:c≠hi:=fun e2=>by subst e2;exact e hh0
   have h1:aC (less.set hi (lo:Int)) c=aC less c:=by rw [ck,if_neg (by omega)]
   rw [eM hd (by rw [List.length_set];exact hc) (by rw [h1];exact e),h1,eM h hc e]
   exact ih _ (by omega) (by omega)
theorem sS {less:List Int} (h:Down less):∀c,c < less.length→root (less ++ [(less.length:Int)]) c=root less c:=by
 have hd:Down (less ++ [(less.length:Int)]):=fun c hc=>by
  by_cases e:c < less.length
  ·rw [cx e];exact h c e
  ·obtain rfl:c=less.length:=by simp at hc;omega
   rw [dH];omega
 intro c
 induction c using Nat.strongRecOn with
 | _ c ih=>
  intro hc
  have h1:aC (less ++ [(less.length:Int)]) c=aC less c:=cx hc
  by_cases e:aC less c=(c:Int)
  ·rw [cD e,cD (h1.trans e)]
  ·have hb:=h c hc
   rw [eM hd (by simp;omega) (by rw [h1];exact e),h1,eM h hc e]
   exact ih _ (by omega) (by omega)
inductive gD (less:List Int) (q:List (Int×Int)):Nat→Nat→Prop where
 | refl (a:Nat):gD less q a a
 | symm {a b:Nat} (h:gD less q a b):gD less q b a
 | trans {a b c:Nat} (h:gD less q a b) (k:gD less q b c):gD less q a c
 | root (a:Nat) (h:a < less.length):gD less q a (root less a)
 | pair (p:Int×Int) (h:p∈q):gD less q p.1.toNat p.2.toNat
theorem gD.mono {less less':List Int} {q q':List (Int×Int)} (h1:∀a,a < less.length→gD less' q' a (Proofs.Ytekbhbcgoadciaa.root less a)) (h2:∀p∈q,gD less' q' p.1.toNat p.2.toNat) {a b:Nat} (h:gD less q a b):gD less' q' a b:=by
 induction h with
 | refl a=>exact .refl a
 | symm _ ih=>exact .symm ih
 | trans _ _ ih1 ih2=>exact .trans ih1 ih2
 | root a h=>exact h1 a h
 | pair p h=>exact h2 p h
theorem gD.nG {less:List Int} (hd:Down less) {a b:Nat} (h:gD less [] a b):Proofs.Ytekbhbcgoadciaa.root less a=Proofs.Ytekbhbcgoadciaa.root less b:=by
 induction h with
 | refl a=>rfl
 | symm _ ih=>exact ih.symm
 | trans _ _ ih1 ih2=>exact ih1.trans ih2
 | root a h=>exact (fX hd h).symm
 | pair p h=>simp at h
def eJ (ng:Nat) (im:List (List Int)) (less:List Int) (q:List (Int×Int)):Prop:=
 ∀c g,c < less.length→aC less c=(c:Int)→g < ng→0≤bD im c g→0≤bD im (root less (bD im c g).toNat) g∧gD less q (bD im (root less (bD im c g).toNat) g).toNat c
theorem js {ng lo hi:Nat} {im:List (List Int)} {less:List Int} {q:List (Int×Int)} (h:WF ng im less) (hlo:lo < im.length) (hne:lo≠hi):∀g,g≤ng→
  (∀c k,(c≠lo∨g≤k)→bD (bm lo hi (im,q) g).1 c k=bD im c k)∧(∀k,k < g→bD (bm lo hi (im,q) g).1 lo k=if bD im hi k < 0 then bD im lo k else if 0≤bD im lo k then bD im lo k else bD im hi k)∧
  (∀p∈q,p∈(bm lo hi (im,q) g).2)∧(∀k,k < g→0≤bD im hi k→0≤bD im lo k→(bD im hi k,bD im lo k)∈(bm lo hi (im,q) g).2)∧((bm lo hi (im,q) g).1.length=im.length∧∀c,(bu (bm lo hi (im,q) g).1 c).length=(bu im c).length)
 | 0,_=>⟨fun _ _ _=>rfl,fun k hk=>by omega,fun _ h=>h,fun k hk=>by omega,rfl,fun _=>rfl⟩
 | g + 1,hg=>by
  obtain ⟨h1,h2,h3,h4,h5,h6⟩:=js h hlo hne g (by omega) (q:=q)
  have ehi:bD (bm lo hi (im,q) g).1 hi g=bD im hi g:=h1 hi g (.inl (fun e=>hne e.symm))
  have elo:bD (bm lo hi (im,q) g).1 lo g=bD im lo g:=h1 lo g (.inr (Nat.le_refl _))
  simp only [bm,stepG,ehi,elo]
  split
  ·rename_i hn
   refine ⟨fun c k hk=>h1 c k (hk.imp id fun h=>by omega),fun k hk=> ?_,h3,fun k hk a b=> ?_,h5,h6⟩
   ·by_cases e:k=g
    ·subst e;rw [elo,if_pos hn]
    ·exact h2 k (by omega)
   ·by_cases e:k=g
    ·subst e;omega
    ·exact h4 k (by omega) a b
  ·rename_i hn
   split
   ·rename_i hp
    refine ⟨fun c k hk=>h1 c k (hk.imp id fun h=>by omega),fun k hk=> ?_,fun p hp'=>by simp [h3 p hp'],fun k hk a b=> ?_,h5,h6⟩
    ·by_cases e:k=g
     ·subst e;rw [elo,if_neg hn,if_pos hp]
     ·exact h2 k (by omega)
    ·by_cases e:k=g
     ·subst e;simp
     ·simp [h4 k (by omega) a b]
   ·rename_i hp
    have hlen:lo < (bm lo hi (im,q) g).1.length:=by rw [h5];exact hlo
    have hrow:g < (bu (bm lo hi (im,q) g).1 lo).length:=by rw [h6,h.row lo hlo];omega
    refine ⟨fun c k hk=> ?_,fun k hk=> ?_,h3,fun k hk a b=> ?_,by rw [cU];exact h5,fun c=>by rw [gp];exact h6 c⟩
    ·dsimp only
     rw [dN hlen hrow,if_neg (by rcases hk with hk | hk<;>omega)]
     exact h1 c k (hk.imp id fun h=>by omega)
    ·dsimp only
     rw [dN hlen hrow]
     by_cases e:k=g
     ·subst e;rw [if_pos ⟨rfl,rfl⟩,if_neg hn,if_neg hp]
     ·rw [if_neg (by omega)];exact h2 k (by omega)
    ·by_cases e:k=g
     ·subst e;omega
     ·exact h4 k (by omega) a b
theorem eJ.merge {ng lo hi:Nat} {im:List (List Int)} {less:List Int} {p:Int×Int} {q:List (Int×Int)} (h:WF ng im less) (hB:eJ ng im less (p :: q)) (hp:p.1.toNat < less.length∧p.2.toNat < less.length) (hlt:lo < hi) (hhi:hi < less.length) (hl0:aC less lo=(lo:Int)) (hh0:aC less hi=(hi:Int))
  (hr:(root less p.1.toNat=lo∧root less p.2.toNat=hi)∨(root less p.1.toNat=hi∧root less p.2.toNat=lo)):eJ ng (bm lo hi (im,q) ng).1 (less.set hi (lo:Int)) (bm lo hi (im,q) ng).2:=by
 have hil:lo < im.length:=by rw [h.len];omega
 obtain ⟨m1,m2,m3,m4,_⟩:=js (q:=q) h hil (by omega:lo≠hi) ng (Nat.le_refl _)
 have hrs:=oY h.down hlt hhi hl0 hh0
 have hd:=oL h.down (lo:=lo) (hi:=hi) (by omega)
 generalize (bm lo hi (im,q) ng).1=im' at *
 generalize (bm lo hi (im,q) ng).2=q' at *
 have hlh:gD (less.set hi (lo:Int)) q' hi lo:=by
  have:=gD.root (less:=less.set hi (lo:Int)) (q:=q') hi (by rw [List.length_set];exact hhi)
  rwa [hrs hi hhi,cD hh0,if_pos rfl] at this
 have hroot:∀a,a < less.length→gD (less.set hi (lo:Int)) q' a (root less a):=fun a ha=>by
  have:=gD.root (less:=less.set hi (lo:Int)) (q:=q') a (by rw [List.length_set];exact ha)
  rw [hrs a ha] at this
  by_cases e:root less a=hi
  ·rw [if_pos e] at this;rw [e];exact this.trans hlh.symm
  ·rwa [if_neg e] at this
 have hmono:∀ {a b:Nat},gD less (p :: q) a b→gD (less.set hi (lo:Int)) q' a b:=fun hab=>by
  refine gD.mono hroot (fun x hx=> ?_) hab
  rcases List.mem_cons.1 hx with rfl | hx
  ·have k1:=hroot _ hp.1
   have k2:=hroot _ hp.2
   rcases hr with ⟨r1,r2⟩ | ⟨r1,r2⟩
   ·rw [r1] at k1;rw [r2] at k2;exact k1.trans (hlh.symm.trans k2.symm)
   ·rw [r1] at k1;rw [r2] at k2;exact k1.trans (hlh.trans k2.symm)
  ·exact .pair x (m3 x hx)
 have elo:∀g,g < ng→(0≤bD im lo g→bD im' lo g=bD im lo g)∧(0≤bD im hi g→0≤bD im' lo g∧gD (less.set hi (lo:Int)) q' (bD im' lo g).toNat (bD im hi g).toNat):=fun g hg=>by
  have e:=m2 g hg
  refine ⟨fun h0=> ?_,fun h0=> ?_⟩
  ·rw [e];split<;>first | rfl | rw [if_pos h0]
  ·by_cases h1:0≤bD im lo g
   ·rw [e,if_neg (by omega),if_pos h1]
    exact ⟨h1,(gD.pair _ (m4 g hg h0 h1)).symm⟩
   ·rw [e,if_neg (by omega),if_neg h1]
    exact ⟨h0, .refl _⟩
 have key:∀r g,r < less.length→g < ng→0≤bD im r g→0≤bD im' (if r=hi then lo else r) g∧gD (less.set hi (lo:Int)) q' (bD im' (if r=hi then lo else r) g).toNat (bD im r g).toNat:=fun r g hr' hg h0=>by
  by_cases e:r=hi
  ·subst e;rw [if_pos rfl];exact (elo g hg).2 h0
  ·rw [if_neg e]
   by_cases e2:r=lo
   ·subst e2;rw [(elo g hg).1 h0];exact ⟨h0, .refl _⟩
   ·rw [m1 r g (.inl e2)];exact ⟨h0, .refl _⟩
 intro c g hc hlive hg h0
 rw [List.length_set] at hc
 have hch:c≠hi:=fun e=>by subst e;rw [ck,if_pos ⟨rfl,hhi⟩] at hlive;omega
 have hlv:aC less c=(c:Int):=by rw [ck,if_neg (fun e=>hch e.1.symm)] at hlive;exact hlive
 have src:(0≤bD im c g∧bD im' c g=bD im c g)∨(c=lo∧bD im c g < 0∧0≤bD im hi g∧bD im' c g=bD im hi g):=by
  by_cases e:c=lo
  ·subst e
   have e':=m2 g hg
   by_cases h1:0≤bD im c g
   ·exact .inl ⟨h1,(elo g hg).1 h1⟩
   ·right
    rw [e'] at h0 ⊢
    split at h0
    ·omega
    ·rename_i h2
     rw [if_neg h2,if_neg h1]
     exact ⟨rfl,by omega,by omega,rfl⟩
  ·rw [m1 c g (.inl e)] at h0
   exact .inl ⟨h0,m1 c g (.inl e)⟩
 have hcl:c < im.length:=by rw [h.len];exact hc
 rcases src with ⟨h1,h2⟩ | ⟨rfl,h1,h2,h3⟩
 ·rw [h2]
  obtain ⟨k1,k2⟩:=hB c g hc hlv hg h1
  have hel:=h.bD c g hcl hg
  have hrl:=cw h.down (c:=(bD im c g).toNat) (by omega)
  rw [hrs _ (by omega)]
  obtain ⟨k3,k4⟩:=key _ g hrl hg k1
  exact ⟨k3,k4.trans (hmono k2)⟩
 ·rw [h3]
  obtain ⟨k1,k2⟩:=hB hi g hhi hh0 hg h2
  have hel:=h.bD hi g (by rw [h.len];exact hhi) hg
  have hrl:=cw h.down (c:=(bD im hi g).toNat) (by omega)
  rw [hrs _ (by omega)]
  obtain ⟨k3,k4⟩:=key _ g hrl hg k1
  exact ⟨k3,(k4.trans (hmono k2)).trans hlh⟩
theorem eJ.y3 {ng:Nat} {im:List (List Int)} {less:List Int} {q q':List (Int×Int)} (hB:eJ ng im less q) (hq:∀p∈q,gD less q' p.1.toNat p.2.toNat):eJ ng im less q':=fun c g hc hl hg h0=>by
 obtain ⟨k1,k2⟩:=hB c g hc hl hg h0
 exact ⟨k1,k2.mono (fun a ha=> .root a ha) hq⟩
theorem g9 {ng n:Nat} :∀(f:Nat) (im:List (List Int)) (less:List Int) (q:List (Int×Int)),WF ng im less→less.length=n→kT n q→fuel ng less q≤f→eJ ng im less q→eJ ng (bY ng f im less q).1 (bY ng f im less q).2 []
 | 0,im,less,q,h,hn,hq,hf,hB=>by
  have:q= []:=List.eq_nil_of_length_eq_zero (by unfold fuel at hf;omega)
  subst this;exact hB
 | f + 1,im,less, [],h,hn,hq,hf,hB=>hB
 | f + 1,im,less,p :: q,h,hn,hq,hf,hB=>by
  have hp:=hq p (by simp)
  have hq':kT less.length q:=fun x hx=>hn ▸ hq x (by simp [hx])
  have hr1:=dJ h.down p.1.toNat (by omega)
  have hr2:=dJ h.down p.2.toNat (by omega)
  have hfu:fuel ng less (p :: q)=fuel ng less q + 1:=by unfold fuel;simp;omega
  simp only [bY]
  split
  ·rename_i he
   refine g9 f im less q h hn (fun x hx=>hq x (by simp [hx])) (by omega) (hB.y3 fun x hx=> ?_)
   rcases List.mem_cons.1 hx with rfl | hx
   ·have k1:=gD.root (less:=less) (q:=q) x.1.toNat (by omega)
    have k2:=gD.root (less:=less) (q:=q) x.2.toNat (by omega)
    rw [he] at k1;exact k1.trans k2.symm
   ·exact .pair x hx
  ·rename_i hne
   have hid:=iO h (hn ▸ hq) hne
   unfold fh at hid
   obtain ⟨_,w1,w2,w3⟩:=hid
   have hroots:aC less (min (root less p.1.toNat) (root less p.2.toNat))=((min (root less p.1.toNat) (root less p.2.toNat):Nat):Int)∧aC less (max (root less p.1.toNat) (root less p.2.toNat))=((max (root less p.1.toNat) (root less p.2.toNat):Nat):Int):=by
    rcases Nat.le_total (root less p.1.toNat) (root less p.2.toNat) with h5 | h5
    ·rw [Nat.min_eq_left h5,Nat.max_eq_right h5];exact ⟨hr1.1,hr2.1⟩
    ·rw [Nat.min_eq_right h5,Nat.max_eq_left h5];exact ⟨hr2.1,hr1.1⟩
   have hbk:=hB.merge h (by omega) (lo:=min (root less p.1.toNat) (root less p.2.toNat)) (hi:=max (root less p.1.toNat) (root less p.2.toNat)) (by omega) (by omega) hroots.1 hroots.2 (by
    rcases Nat.le_total (root less p.1.toNat) (root less p.2.toNat) with h5 | h5
    ·left;rw [Nat.min_eq_left h5,Nat.max_eq_right h5];exact ⟨rfl,rfl⟩
    ·right;rw [Nat.min_eq_right h5,Nat.max_eq_left h5];exact ⟨rfl,rfl⟩)
   exact g9 f _ _ _ w1 (by rw [List.length_set];exact hn) (hn ▸ w2) (by omega) hbk
theorem k9 {ng:Nat} {im:List (List Int)} {less:List Int} {p:Int×Int} (h:WF ng im less) (hq:kT less.length [p]) (hB:eJ ng im less []):eJ ng (ident ng im less [p]).1 (ident ng im less [p]).2 []:=
 g9 _ im less [p] h rfl hq (Nat.le_refl _) (hB.y3 fun x hx=>by simp at hx)
section
variable {ng:Nat} {im:List (List Int)} {less:List Int}
theorem eJ.fix (hB:eJ ng im less []) (h:WF ng im less) {c g:Nat} (hc:c < less.length) (hl:aC less c=(c:Int)) (hg:g < ng) (h0:0≤bD im c g):0≤bD im (root less (bD im c g).toNat) g∧root less (bD im (root less (bD im c g).toNat) g).toNat=c:=by
 obtain ⟨k1,k2⟩:=hB c g hc hl hg h0
 exact ⟨k1,(k2.nG h.down).trans (cD hl)⟩
theorem eJ.of (h:∀c g,c < less.length→aC less c=(c:Int)→g < ng→0≤bD im c g→0≤bD im (root less (bD im c g).toNat) g∧root less (bD im (root less (bD im c g).toNat) g).toNat=c) (hw:WF ng im less):eJ ng im less []:=fun c g hc hl hg h0=>by
 obtain ⟨k1,k2⟩:=h c g hc hl hg h0
 refine ⟨k1, ?_⟩
 have he:=hw.bD c g (by rw [hw.len];exact hc) hg
 have hrl:=cw hw.down (c:=(bD im c g).toNat) (by omega)
 have he2:=hw.bD (root less (bD im c g).toNat) g (by rw [hw.len];exact hrl) hg
 have:=gD.root (less:=less) (q:= []) (bD im (root less (bD im c g).toNat) g).toNat (by omega)
 rwa [k2] at this
theorem eJ.link (hB:eJ ng im less []) (hw:WF ng im less) {c d g:Nat} (hc:c < less.length) (hd:d < less.length) (hlc:aC less c=(c:Int)) (hld:aC less d=(d:Int)) (hg:g < ng) (h1:bD im c g < 0) (h2:bD im d g < 0):eJ ng (dq (dq im d g (c:Int)) c g (d:Int)) less []:=by
 have hl:=hw.len
 have w1:=hw.fl (c:=d) (g:=g) (z:=(c:Int)) (by omega) hg (by omega)
 have w2:=w1.fl (c:=c) (g:=g) (z:=(d:Int)) (by rw [cU];omega) hg (by omega)
 have ee:∀a k,bD (dq (dq im d g (c:Int)) c g (d:Int)) a k=if c=a∧g=k then (d:Int) else if d=a∧g=k then (c:Int) else bD im a k:=fun a k=>by
  rw [dN (by rw [cU];omega) (by rw [gp,hw.row c (by omega)];exact hg),dN (by omega) (by rw [hw.row d (by omega)];exact hg)]
 refine eJ.of (fun a k ha hla hk h0=> ?_) w2
 have e0:=ee a k
 by_cases e1:c=a∧g=k
 ·obtain ⟨rfl,rfl⟩:=e1
  rw [if_pos ⟨rfl,rfl⟩] at e0
  rw [e0,Int.toNat_natCast,cD hld]
  have e3:=ee d g
  by_cases e2:c=d
  ·subst e2;rw [if_pos ⟨rfl,rfl⟩] at e3;rw [e3,Int.toNat_natCast];exact ⟨by omega,cD hlc⟩
  ·rw [if_neg (fun h=>e2 h.1),if_pos ⟨rfl,rfl⟩] at e3;rw [e3,Int.toNat_natCast];exact ⟨by omega,cD hlc⟩
 ·rw [if_neg e1] at e0
  by_cases e2:d=a∧g=k
  ·obtain ⟨rfl,rfl⟩:=e2
   rw [if_pos ⟨rfl,rfl⟩] at e0
   rw [e0,Int.toNat_natCast,cD hlc]
   have e3:=ee c g
   rw [if_pos ⟨rfl,rfl⟩] at e3
   rw [e3,Int.toNat_natCast];exact ⟨by omega,cD hld⟩
  ·rw [if_neg e2] at e0
   rw [e0] at h0 ⊢
   obtain ⟨k1,k2⟩:=hB.fix hw ha hla hk h0
   have n1:¬(c=root less (bD im a k).toNat∧g=k):=fun h=>by rw [←h.1,←h.2] at k1;omega
   have n2:¬(d=root less (bD im a k).toNat∧g=k):=fun h=>by rw [←h.1,←h.2] at k1;omega
   have e3:=ee (root less (bD im a k).toNat) k
   rw [if_neg n1,if_neg n2] at e3
   rw [e3]
   exact ⟨k1,k2⟩
theorem eJ.app (hB:eJ ng im less []) (hw:WF ng im less):eJ ng (im ++ [List.replicate ng (-1)]) (less ++ [(less.length:Int)]) []:=by
 have hl:=hw.len
 have hra:=sS hw.down
 refine eJ.of (fun a k ha hla hk h0=> ?_) hw.app
 by_cases e:a < less.length
 ·have e1:∀b,b < less.length→bD (im ++ [List.replicate ng (-1)]) b k=bD im b k:=fun b hb=>by unfold bD;rw [dY (by omega)]
  rw [e1 a e] at h0 ⊢
  rw [cx e] at hla
  obtain ⟨k1,k2⟩:=hB.fix hw e hla hk h0
  have he:=hw.bD a k (by omega) hk
  have hrl:=cw hw.down (c:=(bD im a k).toNat) (by omega)
  have he2:=hw.bD (root less (bD im a k).toNat) k (by omega) hk
  rw [hra _ (by omega),e1 _ hrl,hra _ (by omega)]
  exact ⟨k1,k2⟩
 ·obtain rfl:a=less.length:=by simp at ha;omega
  exfalso
  unfold bD at h0
  rw [←hl,eL,fb hk] at h0
  omega
theorem eJ.next (hB:eJ ng im less []) (hw:WF ng im less) {c g:Nat} (hc:c < less.length) (hlc:aC less c=(c:Int)) (hg:g < ng) (hn:less.length≤2000):
  eJ ng (bI ng im less c g).1 (bI ng im less c g).2.1 []∧((bI ng im less c g).2.2.1=false→aC (bI ng im less c g).2.1 (bI ng im less c g).2.2.2=((bI ng im less c g).2.2.2:Int))∧(∀a,a < less.length→aC (bI ng im less c g).2.1 a=aC less a):=by
 unfold bI
 split
 ·rename_i h0
  have he:=hw.bD c g (by rw [hw.len];exact hc) hg
  exact ⟨hB,fun _=>(dJ hw.down _ (by omega)).1,fun _ _=>rfl⟩
 ·rename_i h0
  split
  ·exact ⟨hB,(fun h=>nomatch h),fun _ _=>rfl⟩
  ·have hl:=hw.len
   have b1:=hB.app hw
   have w1:=hw.app
   refine ⟨?_,fun _=>dH,fun a ha=>cx ha⟩
   have hcc:c < (less ++ [(less.length:Int)]).length:=by simp;omega
   have:=b1.link w1 (c:=less.length) (d:=c) (g:=g) (by simp) hcc dH (by rw [cx hc];exact hlc) hg (by unfold bD;rw [←hl,eL,fb hg];omega) (by unfold bD at h0 ⊢;rw [dY (by omega)];omega)
   exact this
end
theorem nL {ng n0:Nat} :∀(w:List Nat) (s:List (List Int)×List Int×Bool×Nat),rr ng n0 s→eJ ng s.1 s.2.1 []→(s.2.2.1=false→aC s.2.1 s.2.2.2=(s.2.2.2:Int))→(∀g∈w,g < ng)→
  eJ ng (fO ng s w).1 (fO ng s w).2.1 []∧((fO ng s w).2.2.1=false→aC (fO ng s w).2.1 (fO ng s w).2.2.2=((fO ng s w).2.2.2:Int))∧(∀a,a < s.2.1.length→aC (fO ng s w).2.1 a=aC s.2.1 a)
 | [],s,h,hB,hl,_=>⟨hB,hl,fun _ _=>rfl⟩
 | g :: r,s,h,hB,hl,hg=>by
  unfold fO
  split
  ·exact ⟨hB,hl,fun _ _=>rfl⟩
  ·rename_i hf
   obtain ⟨b1,b2,b3⟩:=hB.next h.wf h.d (hl (by simpa using hf)) (hg g (by simp)) h.hi
   obtain ⟨h1,h2,h3,h4,_⟩:=fz h.wf h.d (hg g (by simp)) h.hi
   obtain ⟨c1,c2,c3⟩:=nL (n0:=n0) r _ ⟨h1,Nat.le_trans h.lo h2,h3,h4⟩ b1 b2 fun x hx=>hg x (by simp [hx])
   exact ⟨c1,c2,fun a ha=>(c3 a (by omega)).trans (b3 a ha)⟩
theorem ni {ng:Nat} {im:List (List Int)} {less:List Int} {c:Nat} {w:List Nat} (h:WF ng im less) (hB:eJ ng im less []) (hc:c < less.length) (hl:aC less c=(c:Int)) (hn:less.length≤2000) (hg:∀g∈w,g < ng):eJ ng (cu ng im less c w).1 (cu ng im less c w).2.1 []:=by
 unfold cu
 cases hw:w.getLast? with
 | none=>exact hB
 | some g=>
  have hgl:g < ng:=hg g (List.mem_of_getLast? hw)
  have ok:=ll (n0:=less.length) w.dropLast (im,less,false,c) ⟨h,Nat.le_refl _,hn,hc⟩ fun x hx=>hg x (List.dropLast_subset _ hx)
  obtain ⟨b1,b2,b3⟩:=nL (n0:=less.length) w.dropLast (im,less,false,c) ⟨h,Nat.le_refl _,hn,hc⟩ hB (fun _=>hl) fun x hx=>hg x (List.dropLast_subset _ hx)
  generalize fO ng (im,less,false,c) w.dropLast=s at *
  have hcs:c < s.2.1.length:=Nat.lt_of_lt_of_le hc ok.lo
  have hlc:aC s.2.1 c=(c:Int):=(b3 c hc).trans hl
  dsimp only
  split
  ·exact b1
  ·rename_i hf
   have e1:=dM ok.wf ok.d hgl
   have e2:=dM ok.wf hcs hgl
   have hd:=ok.d
   split
   ·rename_i he
    exact k9 ok.wf (fun p hp=>by simp at hp;subst hp;exact ⟨⟨he,e1⟩,by omega,by dsimp only;omega⟩) b1
   ·rename_i he
    split
    ·rename_i hf
     exact k9 ok.wf (fun p hp=>by simp at hp;subst hp;exact ⟨⟨hf,e2⟩,by omega,by dsimp only;omega⟩) b1
    ·rename_i hf2
     refine b1.link ok.wf hcs hd hlc (b2 (by simpa using hf)) hgl ?_ ?_
     ·unfold image at hf2;split at hf2<;>omega
     ·unfold image at he;split at he<;>omega
def BK (ng n:Nat) (s:dc):Prop:=bO ng n s∧eJ ng s.1 s.2.1 []
theorem mZ {ng n:Nat} {s:dc} {w:List Int} (h:BK ng n s) (hn:0 < n) (hw:a9 ng w):BK ng n (cW ng s w):=by
 refine ⟨jo h.1 hn hw, ?_⟩
 have h0:0 < s.2.1.length:=Nat.lt_of_lt_of_le hn h.1.lo
 unfold cW
 split
 ·exact h.2
 ·exact ni h.1.wf h.2 h0 (by have:=h.1.wf.down 0 h0;omega) h.1.hi hw.nat
theorem nn {ng n c:Nat} {s:dc} {w:List Int} (h:BK ng n s) (hn:c < n) (hw:a9 ng w):BK ng n (cm ng c s w):=by
 refine ⟨gP h.1 hn hw, ?_⟩
 unfold cm
 split
 ·rename_i hl
  exact ni h.1.wf h.2 (Nat.lt_of_lt_of_le hn h.1.lo) (by unfold dX at hl;simp at hl;exact hl.1) h.1.hi hw.nat
 ·exact h.2
theorem o6 {ng n c g:Nat} {s:dc} (h:BK ng n s) (hn:c < n) (hg:g < ng):BK ng n (cI ng c s g):=by
 refine ⟨jm h.1 hn hg, ?_⟩
 unfold cI
 split
 ·rename_i hl
  exact (h.2.next h.1.wf (Nat.lt_of_lt_of_le hn h.1.lo) (by unfold dX at hl;simp at hl;exact hl.1) hg h.1.hi).1
 ·exact h.2
theorem jw {α:Type} {ng n:Nat} {f:dc→α→dc} {p:α→Prop} (hf:∀s x,BK ng n s→p x→BK ng n (f s x)):∀(l:List α) (s:dc),BK ng n s→(∀x∈l,p x)→BK ng n (l.foldl f s)
 | [],s,h,_=>h
 | x :: r,s,h,hp=>jw hf r _ (hf s x h (hp x (by simp))) fun y hy=>hp y (by simp [hy])
theorem sW {ng n c:Nat} {rels:List (List Int)} {s:dc} (h:BK ng n s) (hn:c < n) (hr:∀w∈rels,a9 ng w):BK ng n (dm ng rels c s):=
 jw (p:=fun g=>g < ng) (fun s g h hg=>o6 h hn hg) _ _ (jw (p:=a9 ng) (fun s w h hw=>nn h hn hw) _ _ h hr) fun g hg=>List.mem_range.1 hg
theorem oC {ng n:Nat} {rels:List (List Int)} (hr:∀w∈rels,a9 ng w):∀(f c:Nat) (s:dc),BK ng n s→BK ng n (outer ng rels f c s)
 | 0,_,s,h=>h
 | f + 1,c,s,h=>by
  unfold outer
  split
  ·rename_i hc
   have:=sW (n:=s.2.1.length) ⟨⟨h.1.wf,Nat.le_refl _,h.1.hi⟩,h.2⟩ hc.1 hr
   exact oC hr f _ _ ⟨this.1.le h.1.lo,this.2⟩
  ·exact h
theorem m5 (ng:Nat):BK ng 1 (c6 ng):=⟨gS ng,fun c g hc _ hg h0=>by
 exfalso
 obtain rfl:c=0:=by simp [c6] at hc;omega
 simp [c6,bD,bu,aC,hg] at h0⟩
theorem x8 {ng:Nat} {rels words:List (List Int)} (hr:∀w∈rels,a9 ng w) (hw:∀w∈words,a9 ng w):BK ng 1 (cB ng rels words):=
 oC hr _ _ _ (jw (p:=a9 ng) (fun s w h hw=>mZ h (by omega) hw) _ _ (m5 ng) hw)
theorem u7 {ng:Nat} {im:List (List Int)} {less:List Int} (hF:Full ng im less) (hB:eJ ng im less []) {c g:Nat} (hc:c < less.length) (hl:aC less c=(c:Int)) (hg:g < ng):image im less (image im less c g).toNat g=(c:Int):=by
 have h0:=hF.full c hc hl g hg
 obtain ⟨k1,k2⟩:=hB.fix hF.wf hc hl hg h0
 have e:image im less c g=(root less (bD im c g).toNat:Nat):=by unfold image;rw [if_neg (by omega)]
 rw [e,Int.toNat_natCast]
 unfold image
 rw [if_neg (by omega),k2]
def mV (n:Nat) (s:iE):Prop:=∀d,d < n→0≤aC s.2 d→aC s.1 (aC s.2 d).toNat=(d:Int)
theorem tm {n:Nat} {less:List Int} {s:iE} {d:Nat} (h:nI n less s) (hb:mV n s) (hd:d < n):mV n (visit s d):=by
 unfold visit
 split
 ·rename_i hn
  intro e he h0
  dsimp only at h0 ⊢
  rw [ck] at h0 ⊢
  split
  ·rename_i h1;rw [Int.toNat_natCast,dH,h1.1]
  ·rename_i h1
   rw [if_neg h1] at h0
   rw [cx (by have:=h.num e he h0;omega)]
   exact hb e he h0
 ·exact hb
theorem qp {ng:Nat} {im:List (List Int)} {less:List Int} (hF:Full ng im less) {i:Nat} {s:iE} (h:nI less.length less s) (hb:mV less.length s) (hi:i < s.1.length):∀m,m≤ng→mV less.length ((List.range m).foldl (cQ im less i) s)
 | 0,_=>hb
 | m + 1,hm=>by
  have ih:=qp hF h hb hi m (by omega)
  obtain ⟨h1,h2,_⟩:=eN hF h hi m (by omega)
  rw [List.range_succ,List.foldl_append]
  generalize (List.range m).foldl (cQ im less i) s=t at *
  obtain ⟨d,k1,k2,k3,_⟩:=h1.live i (Nat.lt_of_lt_of_le hi h2.len)
  obtain ⟨e,e1,e2,_⟩:=hF.image k2 k3 (g:=m) (by omega)
  show mV less.length (cQ im less i t m)
  unfold cQ
  rw [k1,Int.toNat_natCast,e1,Int.toNat_natCast]
  exact tm h1 ih e2
theorem og {ng:Nat} {im:List (List Int)} {less:List Int} (hF:Full ng im less):∀(f i:Nat) (s:iE),nI less.length less s→mV less.length s→mV less.length (cM ng im less f i s)
 | 0,i,s,_,hb=>hb
 | f + 1,i,s,h,hb=>by
  unfold cM
  split
  ·rename_i hlt
   exact og hF f (i + 1) _ (eN hF h hlt ng (Nat.le_refl _)).1 (qp hF h hb hlt ng (Nat.le_refl _))
  ·exact hb
theorem jX {ng:Nat} {im:List (List Int)} {less:List Int} (hF:Full ng im less):mV less.length (bS ng im less):=
 og hF _ _ _ (gh hF) fun d hd h0=>by
  have hp:=hF.pos
  have h0:0≤aC ((List.replicate less.length (-1)).set 0 0) d:=h0
  show aC [0] (aC ((List.replicate less.length (-1)).set 0 0) d).toNat=_
  rw [ck] at h0 ⊢
  split
  ·rename_i h1;rw [←h1.1];rfl
  ·rename_i h1;rw [if_neg h1,fb hd] at h0;omega
def la (ng:Nat) (im:List (List Int)) (less:List Int) (k g:Nat):Int:=aC (bS ng im less).2 (image im less (aC (bS ng im less).1 k).toNat g).toNat
theorem wD {ng:Nat} {im:List (List Int)} {less:List Int} (hF:Full ng im less) (hB:eJ ng im less []) {k g:Nat} (hk:k < (bS ng im less).1.length) (hg:g < ng):la ng im less (la ng im less k g).toNat g=(k:Int):=by
 obtain ⟨h,hs⟩:=iJ hF
 obtain ⟨d,h1,h2,h3,h4⟩:=h.live k hk
 obtain ⟨e,e1,e2,e3⟩:=hF.image h2 h3 hg
 have h0:=hs k hk g hg
 have hn:=jX hF e e2
 have hi:=u7 hF hB h2 h3 hg
 unfold la
 rw [h1,Int.toNat_natCast,e1,Int.toNat_natCast] at h0 ⊢
 rw [e1,Int.toNat_natCast] at hi
 rw [hn h0,Int.toNat_natCast,hi,Int.toNat_natCast,h4]
end Go.Proofs.Ytekbhbcgoadciaa
namespace Go.Proofs.Ytekbhbcgoadciaa
structure p6 {X:Type} (ng:Nat) (f:Nat→X→X) (im:List (List Int)) (less:List Int) (h:Nat→X):Prop where
 entv:∀c g,c < less.length→g < ng→0≤bD im c g→h (bD im c g).toNat=f g (h c)
 lessv:∀c,c < less.length→h (aC less c).toNat=h c
def cC {X:Type} (f:Nat→X→X) (x:X) (w:List Nat):X:=w.foldl (fun y g=>f g y) x
section
variable {X:Type} {ng:Nat} {f:Nat→X→X} {im:List (List Int)} {less:List Int} {h:Nat→X}
theorem p6.root (H:p6 ng f im less h) (hd:Down less):∀c,c < less.length→h (root less c)=h c:=by
 intro c
 induction c using Nat.strongRecOn with
 | _ c ih=>
  intro hc
  by_cases e:aC less c=(c:Int)
  ·rw [cD e]
  ·have hb:=hd c hc
   rw [eM hd hc e,ih _ (by omega) (by omega)]
   exact H.lessv c hc
theorem p6.we (H:p6 ng f im less h) (hw:WF ng im less) {c g:Nat} (hc:c < less.length) (hg:g < ng) (h0:0≤image im less c g):h (image im less c g).toNat=f g (h c):=by
 unfold image at h0 ⊢
 by_cases e:bD im c g < 0
 ·rw [if_pos e] at h0;omega
 ·rw [if_neg e]
  have:=hw.bD c g (by rw [hw.len];exact hc) hg
  rw [Int.toNat_natCast,H.root hw.down _ (by omega),H.entv c g hc hg (by omega)]
theorem p6.set (H:p6 ng f im less h) (hw:WF ng im less) {c g z:Nat} (hc:c < less.length) (hg:g < ng) (hz:h z=f g (h c)):p6 ng f (dq im c g (z:Int)) less h:=
 ⟨fun a k ha hk h0=>by
  have e:=dN (im:=im) (c:=c) (g:=g) (k:=a) (j:=k) (z:=(z:Int)) (by rw [hw.len];exact hc) (by rw [hw.row c (by rw [hw.len];exact hc)];exact hg)
  rw [e] at h0 ⊢
  by_cases e2:c=a∧g=k
  ·rw [if_pos e2,Int.toNat_natCast,hz,e2.1,e2.2]
  ·rw [if_neg e2] at h0 ⊢;exact H.entv a k ha hk h0,H.lessv⟩
theorem p6.next (H:p6 ng f im less h) (hinv:∀g x,g < ng→f g (f g x)=x) (hw:WF ng im less) {c g:Nat} (hc:c < less.length) (hg:g < ng):
  ∃h',p6 ng f (bI ng im less c g).1 (bI ng im less c g).2.1 h'∧(∀a,a < less.length→h' a=h a)∧((bI ng im less c g).2.2.1=false→h' (bI ng im less c g).2.2.2=f g (h c)):=by
 unfold bI
 split
 ·rename_i h0
  have he:=hw.bD c g (by rw [hw.len];exact hc) hg
  exact ⟨h,H,fun _ _=>rfl,fun _=>by rw [H.root hw.down _ (by omega)];exact H.entv c g hc hg h0⟩
 ·split
  ·exact ⟨h,H,fun _ _=>rfl,fun h=>nomatch h⟩
  ·have hl:=hw.len
   have w1:=hw.app
   have ha:∀a,a < less.length→(fun a=>if a=less.length then f g (h c) else h a) a=h a:=fun a ha=>if_neg (by omega)
   have hn:(fun a=>if a=less.length then f g (h c) else h a) less.length=f g (h c):=if_pos rfl
   refine ⟨fun a=>if a=less.length then f g (h c) else h a, ?_,ha,fun _=>hn⟩
   generalize (fun a=>if a=less.length then f g (h c) else h a)=h' at *
   have H1:p6 ng f (im ++ [List.replicate ng (-1)]) (less ++ [(less.length:Int)]) h':=by
    refine ⟨fun a k hka hk h0=> ?_,fun a hka=> ?_⟩
    ·by_cases e:a < less.length
     ·have e1:bD (im ++ [List.replicate ng (-1)]) a k=bD im a k:=by unfold Proofs.Ytekbhbcgoadciaa.bD;rw [dY (by omega)]
      rw [e1] at h0 ⊢
      have:=hw.bD a k (by omega) hk
      rw [ha _ (by omega),ha a e];exact H.entv a k e hk h0
     ·obtain rfl:a=less.length:=by simp at hka;omega
      exfalso
      unfold Proofs.Ytekbhbcgoadciaa.bD at h0
      rw [←hl,eL,fb hk] at h0
      omega
    ·by_cases e:a < less.length
     ·have:=hw.down a e
      rw [cx e,ha _ (by omega),ha a e];exact H.lessv a e
     ·obtain rfl:a=less.length:=by simp at hka;omega
      rw [dH,Int.toNat_natCast]
   have H2:=H1.set w1 (c:=c) (g:=g) (z:=less.length) (by simp;omega) hg (by rw [hn,ha c hc])
   have w2:=w1.fl (c:=c) (g:=g) (z:=(less.length:Int)) (by simp;omega) hg (by simp;omega)
   exact H2.set w2 (c:=less.length) (g:=g) (z:=c) (by simp) hg (by rw [hn,ha c hc,hinv g _ hg])
end
section
variable {X:Type} {ng:Nat} {f:Nat→X→X}
theorem vS (hinv:∀g x,g < ng→f g (f g x)=x) {n0:Nat} :∀(w:List Nat) (s:List (List Int)×List Int×Bool×Nat) (h:Nat→X),rr ng n0 s→p6 ng f s.1 s.2.1 h→(∀g∈w,g < ng)→
  ∃h',p6 ng f (fO ng s w).1 (fO ng s w).2.1 h'∧(∀a,a < s.2.1.length→h' a=h a)∧((fO ng s w).2.2.1=false→h' (fO ng s w).2.2.2=cC f (h s.2.2.2) w)
 | [],s,h,_,H,_=>⟨h,H,fun _ _=>rfl,fun _=>rfl⟩
 | g :: r,s,h,ok,H,hg=>by
  unfold fO
  split
  ·rename_i hf
   exact ⟨h,H,fun _ _=>rfl,fun h0=>by rw [hf] at h0;cases h0⟩
  ·obtain ⟨h1,H1,a1,v1⟩:=H.next hinv ok.wf ok.d (hg g (by simp))
   obtain ⟨k1,k2,k3,k4,_⟩:=fz ok.wf ok.d (hg g (by simp)) ok.hi
   obtain ⟨h2,H2,a2,v2⟩:=vS hinv (n0:=n0) r _ h1 ⟨k1,Nat.le_trans ok.lo k2,k3,k4⟩ H1 fun x hx=>hg x (by simp [hx])
   refine ⟨h2,H2,fun a ha=>(a2 a (by omega)).trans (a1 a ha),fun hf=> ?_⟩
   have hf1:(bI ng s.1 s.2.1 s.2.2.2 g).2.2.1=false:=by
    cases e:(bI ng s.1 s.2.1 s.2.2.2 g).2.2.1 with
    | false=>rfl
    | true=>rw [fQ e] at hf;rw [e] at hf;cases hf
   rw [v2 hf,v1 hf1];rfl
theorem mT {lo hi:Nat} {im:List (List Int)} {less:List Int} {q:List (Int×Int)} {h:Nat→X} (hw:WF ng im less) (H:p6 ng f im less h) (hlo:lo < im.length) (hhi:hi < im.length) (hq:kT less.length q) (he:h lo=h hi) (hp:∀p∈q,h p.1.toNat=h p.2.toNat):
  ∀g,g≤ng→p6 ng f (bm lo hi (im,q) g).1 less h∧∀p∈(bm lo hi (im,q) g).2,h p.1.toNat=h p.2.toNat
 | 0,_=>⟨H,hp⟩
 | g + 1,hg=>by
  obtain ⟨H1,p1⟩:=mT hw H hlo hhi hq he hp g (by omega)
  obtain ⟨w1,_,_,w4⟩:=dO hw hlo hhi hq g (by omega)
  have hl:=hw.len
  simp only [bm,stepG]
  split
  ·exact ⟨H1,p1⟩
  ·rename_i hn
   have e1:=w1.bD hi g (by omega) (by omega)
   have v1:=H1.entv hi g (by omega) (by omega) (by omega)
   split
   ·rename_i hpos
    refine ⟨H1,fun p hp'=> ?_⟩
    rcases List.mem_append.1 hp' with h5 | h5
    ·exact p1 p h5
    ·simp at h5;subst h5
     dsimp only
     rw [v1,H1.entv lo g (by omega) (by omega) hpos,he]
   ·refine ⟨?_,p1⟩
    have hz:bD (bm lo hi (im,q) g).1 hi g=(((bD (bm lo hi (im,q) g).1 hi g).toNat:Nat):Int):=by omega
    have:=H1.set w1 (c:=lo) (g:=g) (z:=(bD (bm lo hi (im,q) g).1 hi g).toNat) (by omega) (by omega) (by rw [v1,he])
    rw [←hz] at this
    exact this
theorem ga {h:Nat→X} {n:Nat} :∀(k:Nat) (im:List (List Int)) (less:List Int) (q:List (Int×Int)),WF ng im less→less.length=n→kT n q→p6 ng f im less h→(∀p∈q,h p.1.toNat=h p.2.toNat)→p6 ng f (bY ng k im less q).1 (bY ng k im less q).2 h
 | 0,im,less,q,_,_,_,H,_=>H
 | k + 1,im,less, [],_,_,_,H,_=>H
 | k + 1,im,less,p :: q,hw,hn,hq,H,hp=>by
  have hpp:=hq p (by simp)
  have hq':kT less.length q:=fun x hx=>hn ▸ hq x (by simp [hx])
  have hr1:=cw hw.down (c:=p.1.toNat) (by omega)
  have hr2:=cw hw.down (c:=p.2.toNat) (by omega)
  have v1:=H.root hw.down p.1.toNat (by omega)
  have v2:=H.root hw.down p.2.toNat (by omega)
  have v3:=hp p (by simp)
  simp only [bY]
  split
  ·exact ga k im less q hw hn (fun x hx=>hq x (by simp [hx])) H fun x hx=>hp x (by simp [hx])
  ·rename_i hne
   have hl:=hw.len
   have hlh:h (min (root less p.1.toNat) (root less p.2.toNat))=h (max (root less p.1.toNat) (root less p.2.toNat)):=by
    rcases Nat.le_total (root less p.1.toNat) (root less p.2.toNat) with h5 | h5
    ·rw [Nat.min_eq_left h5,Nat.max_eq_right h5,v1,v2,v3]
    ·rw [Nat.min_eq_right h5,Nat.max_eq_left h5,v1,v2,v3]
   obtain ⟨w1,w2,w3,w4⟩:=dO hw (lo:=min (root less p.1.toNat) (root less p.2.toNat)) (hi:=max (root less p.1.toNat) (root less p.2.toNat)) (by rw [hw.len];omega) (by rw [hw.len];omega) hq' ng (Nat.le_refl _)
   obtain ⟨H1,p1⟩:=mT hw H (lo:=min (root less p.1.toNat) (root less p.2.toNat)) (hi:=max (root less p.1.toNat) (root less p.2.toNat)) (by rw [hw.len];omega) (by rw [hw.len];omega) hq' hlh (fun x hx=>hp x (by simp [hx])) ng (Nat.le_refl _)
   refine ga k _ _ _ (w1.je (by omega)) (by rw [List.length_set];exact hn) (hn ▸ w2) ⟨fun c g hc=>H1.entv c g (by rwa [List.length_set] at hc),fun c hc=> ?_⟩ p1
   rw [List.length_set] at hc
   rw [ck]
   split
   ·rename_i e;rw [Int.toNat_natCast,hlh,e.1]
   ·exact H1.lessv c hc
theorem pq (hinv:∀g x,g < ng→f g (f g x)=x) {im:List (List Int)} {less:List Int} {h:Nat→X} {c:Nat} {w:List Nat} (hw:WF ng im less) (H:p6 ng f im less h) (hc:c < less.length) (hn:less.length≤2000) (hg:∀g∈w,g < ng) (hcl:cC f (h c) w=h c):
  ∃h',p6 ng f (cu ng im less c w).1 (cu ng im less c w).2.1 h'∧∀a,a < less.length→h' a=h a:=by
 unfold cu
 cases hlast:w.getLast? with
 | none=>exact ⟨h,H,fun _ _=>rfl⟩
 | some g=>
  have hgl:g < ng:=hg g (List.mem_of_getLast? hlast)
  have ok:=ll (n0:=less.length) w.dropLast (im,less,false,c) ⟨hw,Nat.le_refl _,hn,hc⟩ fun x hx=>hg x (List.dropLast_subset _ hx)
  obtain ⟨h1,H1,a1,v1⟩:=vS hinv (n0:=less.length) w.dropLast (im,less,false,c) h ⟨hw,Nat.le_refl _,hn,hc⟩ H fun x hx=>hg x (List.dropLast_subset _ hx)
  have hww:w=w.dropLast ++ [g]:=by
   obtain ⟨ys,rfl⟩:=List.getLast?_eq_some_iff.1 hlast
   simp
  generalize fO ng (im,less,false,c) w.dropLast=s at *
  have hcs:c < s.2.1.length:=Nat.lt_of_lt_of_le hc ok.lo
  dsimp only at a1 v1 ⊢
  split
  ·exact ⟨h1,H1,a1⟩
  ·rename_i hf
   have vd:f g (h1 s.2.2.2)=h1 c:=by
    rw [v1 (by simpa using hf),a1 c hc]
    have:=hcl
    rw [hww] at this
    unfold cC at this
    rw [List.foldl_append] at this
    exact this
   have e1:=dM ok.wf ok.d hgl
   have e2:=dM ok.wf hcs hgl
   have hd:=ok.d
   split
   ·rename_i he
    refine ⟨h1,ga _ _ _ _ ok.wf rfl (fun p hp=>by simp at hp;subst hp;exact ⟨⟨he,e1⟩,by omega,by dsimp only;omega⟩) H1 (fun p hp=>by simp at hp;subst hp;dsimp only;rw [Int.toNat_natCast,H1.we ok.wf ok.d hgl he,vd]),a1⟩
   ·split
    ·rename_i hf2
     refine ⟨h1,ga _ _ _ _ ok.wf rfl (fun p hp=>by simp at hp;subst hp;exact ⟨⟨hf2,e2⟩,by omega,by dsimp only;omega⟩) H1 (fun p hp=>by simp at hp;subst hp;dsimp only;rw [Int.toNat_natCast,H1.we ok.wf hcs hgl hf2,←vd,hinv g _ hgl]),a1⟩
    ·have k1:=ok.wf.fl (c:=s.2.2.2) (g:=g) (z:=(c:Int)) (by rw [ok.wf.len];exact hd) hgl (by omega)
     exact ⟨h1,(H1.set ok.wf hd hgl vd.symm).set k1 hcs hgl (by rw [←vd,hinv g _ hgl]),a1⟩
def lK (ng:Nat) (f:Nat→X→X) (x0:X) (n:Nat) (s:dc):Prop:=bO ng n s∧∃h,p6 ng f s.1 s.2.1 h∧h 0=x0
theorem vl (hinv:∀g x,g < ng→f g (f g x)=x) {x0:X} {n:Nat} {s:dc} {w:List Int} (h:lK ng f x0 n s) (hn:0 < n) (hw:a9 ng w∧cC f x0 (w.map Int.toNat)=x0):lK ng f x0 n (cW ng s w):=by
 refine ⟨jo h.1 hn hw.1, ?_⟩
 obtain ⟨h0,H,e0⟩:=h.2
 have hl:0 < s.2.1.length:=Nat.lt_of_lt_of_le hn h.1.lo
 unfold cW
 split
 ·exact ⟨h0,H,e0⟩
 ·obtain ⟨h1,H1,a1⟩:=pq hinv h.1.wf H hl h.1.hi hw.1.nat (by rw [e0];exact hw.2)
  exact ⟨h1,H1,(a1 0 hl).trans e0⟩
theorem uS (hinv:∀g x,g < ng→f g (f g x)=x) {x0:X} {n c:Nat} {s:dc} {w:List Int} (h:lK ng f x0 n s) (hn:c < n) (hw:a9 ng w∧∀x,cC f x (w.map Int.toNat)=x):lK ng f x0 n (cm ng c s w):=by
 refine ⟨gP h.1 hn hw.1, ?_⟩
 obtain ⟨h0,H,e0⟩:=h.2
 have hl:c < s.2.1.length:=Nat.lt_of_lt_of_le hn h.1.lo
 unfold cm
 split
 ·obtain ⟨h1,H1,a1⟩:=pq hinv h.1.wf H hl h.1.hi hw.1.nat (hw.2 _)
  exact ⟨h1,H1,(a1 0 (by omega)).trans e0⟩
 ·exact ⟨h0,H,e0⟩
theorem xV (hinv:∀g x,g < ng→f g (f g x)=x) {x0:X} {n c g:Nat} {s:dc} (h:lK ng f x0 n s) (hn:c < n) (hg:g < ng):lK ng f x0 n (cI ng c s g):=by
 refine ⟨jm h.1 hn hg, ?_⟩
 obtain ⟨h0,H,e0⟩:=h.2
 have hl:c < s.2.1.length:=Nat.lt_of_lt_of_le hn h.1.lo
 unfold cI
 split
 ·obtain ⟨h1,H1,a1,_⟩:=H.next hinv h.1.wf hl hg
  exact ⟨h1,H1,(a1 0 (by omega)).trans e0⟩
 ·exact ⟨h0,H,e0⟩
theorem foldl_hom {α:Type} {x0:X} {n:Nat} {k:dc→α→dc} {p:α→Prop} (hf:∀s x,lK ng f x0 n s→p x→lK ng f x0 n (k s x)):∀(l:List α) (s:dc),lK ng f x0 n s→(∀x∈l,p x)→lK ng f x0 n (l.foldl k s)
 | [],s,h,_=>h
 | x :: r,s,h,hp=>foldl_hom hf r _ (hf s x h (hp x (by simp))) fun y hy=>hp y (by simp [hy])
theorem qe (hinv:∀g x,g < ng→f g (f g x)=x) {x0:X} {n:Nat} {rels:List (List Int)} (hr:∀w∈rels,a9 ng w∧∀x,cC f x (w.map Int.toNat)=x):∀(k c:Nat) (s:dc),lK ng f x0 n s→lK ng f x0 n (outer ng rels k c s)
 | 0,_,s,h=>h
 | k + 1,c,s,h=>by
  unfold outer
  split
  ·rename_i hc
   have h':lK ng f x0 s.2.1.length s:=⟨⟨h.1.wf,Nat.le_refl _,h.1.hi⟩,h.2⟩
   have:=foldl_hom (p:=fun g=>g < ng) (fun s g h hg=>xV hinv h hc.1 hg) (List.range ng) _ (foldl_hom (p:=fun w=>a9 ng w∧∀x,cC f x (w.map Int.toNat)=x) (fun s w h hw=>uS hinv h hc.1 hw) _ _ h' hr) fun g hg=>List.mem_range.1 hg
   exact qe hinv hr k _ _ ⟨this.1.le h.1.lo,this.2⟩
  ·exact h
theorem zY (hinv:∀g x,g < ng→f g (f g x)=x) {x0:X} {rels words:List (List Int)} (hr:∀w∈rels,a9 ng w∧∀x,cC f x (w.map Int.toNat)=x) (hw:∀w∈words,a9 ng w∧cC f x0 (w.map Int.toNat)=x0):lK ng f x0 1 (cB ng rels words):=
 qe hinv hr _ _ _ (foldl_hom (p:=fun w=>a9 ng w∧cC f x0 (w.map Int.toNat)=x0) (fun s w h hw=>vl hinv h (by omega) hw) _ _ ⟨gS ng,fun _=>x0,⟨fun _ _ _ _ _=>rfl.trans (by
  rename_i c g hc hg h0
  exfalso
  obtain rfl:c=0:=by simp [c6] at hc;omega
  simp [c6,bD,bu,aC,hg] at h0),fun _ _=>rfl⟩,rfl⟩ hw)
end
end Go.Proofs.Ytekbhbcgoadciaa
namespace Go.Proofs.Ytekbhbcgoadciaa
inductive RT where
 | l (n:Nat)
 | n (a b:RT)
def RT.row:RT→Nat→Nat
 | .l k,_=>k
 | .n a b,d=>match d % 2 with
  | 0=>a.row (d / 2)
  | _=>b.row (d / 2)
structure Lv where
 N:Nat
 W:Nat
 T:RT
def ev (L:Lv) (d g:Nat):Nat:=(L.T.row d >>> (L.W * g)) % 2 ^ L.W
def tf:List Lv→Nat→List Nat→List Nat
 | L :: r,g,d :: u=>if ev L d g < L.N then ev L d g :: u else d :: tf r (ev L d g - L.N) u
 | _,_,x=>x
def fR:List Lv→List Nat→Bool
 | [], []=>true
 | L :: r,d :: u=>decide (d < L.N) && fR r u
 | _,_=>false
def gB (i j:Nat):Nat→List Nat
 | 0=> []
 | m + 1=>i :: j :: gB i j m
def pS (L:Lv):List Nat→Nat→Nat×List Nat
 | [],d=>(d, [])
 | g :: w,d=>if ev L d g < L.N then pS L w (ev L d g) else ((pS L w d).1,(ev L d g - L.N) :: (pS L w d).2)
def vu (lb:Nat→Nat→Nat) (k:Nat):List Nat→Bool
 | []=>true
 | [s,t]=>s == t && Nat.blt s k
 | s :: t :: E=>Nat.blt s k && (Nat.blt t k && (s != t && (s :: t :: E == gB s t (lb s t))))
 | _=>false
def DA (lb:Nat→Nat→Nat) (k:Nat) (L:Lv):Bool:=
 (List.range L.N).all fun d=>(List.range (k + 1)).all fun g=>
  (if ev L d g < L.N then ev L (ev L d g) g == d && ev L d g != d else Nat.blt (ev L d g - L.N) k)
  && (List.range (k + 1)).all fun j=>g == j || ((pS L (gB g j (lb g j)) d).1 == d && vu lb k (pS L (gB g j (lb g j)) d).2)
def xB (lb:Nat→Nat→Nat):List Lv→Bool
 | []=>true
 | L :: r=>DA lb r.length L && xB lb r
theorem n9 (L:Lv) (r:List Lv):∀(w:List Nat) (d:Nat) (u:List Nat),cC (tf (L :: r)) (d :: u) w=(pS L w d).1 :: cC (tf r) u (pS L w d).2
 | [],d,u=>rfl
 | g :: w,d,u=>by
  show cC (tf (L :: r)) (tf (L :: r) g (d :: u)) w=_
  rw [tf,pS]
  split
  ·exact n9 L r w _ u
  ·rw [n9 L r w d _];rfl
theorem dF {n:Nat} {p:Nat→Bool} :(List.range n).all p=true↔∀d,d < n→p d=true:=by
 rw [List.all_eq_true];exact ⟨fun h d hd=>h d (List.mem_range.2 hd),fun h d hd=>h d (List.mem_range.1 hd)⟩
structure wG (lb:Nat→Nat→Nat) (tw:List Lv):Prop where
 ok:∀g u,g < tw.length→fR tw u=true→fR tw (tf tw g u)=true
 inv:∀g u,g < tw.length→fR tw u=true→tf tw g (tf tw g u)=u
 rel:∀i j u,i < tw.length→j < tw.length→i≠j→fR tw u=true→cC (tf tw) u (gB i j (lb i j))=u
theorem gw {lb:Nat→Nat→Nat} {k:Nat} {L:Lv} (h:DA lb k L=true) {d g:Nat} (hd:d < L.N) (hg:g < k + 1):
  (ev L d g < L.N→ev L (ev L d g) g=d∧ev L d g≠d)∧(¬ev L d g < L.N→ev L d g - L.N < k)∧∀j,j < k + 1→g≠j→(pS L (gB g j (lb g j)) d).1=d∧vu lb k (pS L (gB g j (lb g j)) d).2=true:=by
 have h1:=dF.1 (dF.1 h d hd) g hg
 rw [Bool.and_eq_true] at h1
 refine ⟨fun hl=> ?_,fun hl=> ?_,fun j hj hne=> ?_⟩
 ·have:=h1.1;rw [if_pos hl,Bool.and_eq_true] at this;exact ⟨by simpa using this.1,by simpa using this.2⟩
 ·have:=h1.1;rw [if_neg hl] at this;simpa [Nat.blt_eq] using this
 ·have:=dF.1 h1.2 j hj
  rw [Bool.or_eq_true,Bool.and_eq_true] at this
  rcases this with h2 | h2
  ·exact absurd (by simpa using h2) hne
  ·exact ⟨by simpa using h2.1,h2.2⟩
theorem lg {tw:List Lv} (ok:∀g u,g < tw.length→fR tw u=true→fR tw (tf tw g u)=true):∀(w:List Nat) (u:List Nat),(∀g∈w,g < tw.length)→fR tw u=true→fR tw (cC (tf tw) u w)=true
 | [],u,_,h=>h
 | g :: w,u,hw,h=>lg ok w _ (fun x hx=>hw x (by simp [hx])) (ok g u (hw g (by simp)) h)
theorem ye {lb:Nat→Nat→Nat} {tw:List Lv} (H:wG lb tw) {E:List Nat} (h:vu lb tw.length E=true) {u:List Nat} (hu:fR tw u=true):cC (tf tw) u E=u:=by
 unfold vu at h
 split at h
 ·rfl
 ·rename_i s t
  rw [Bool.and_eq_true] at h
  have h1:s=t:=by simpa using h.1
  have h2:s < tw.length:=by simpa [Nat.blt_eq] using h.2
  subst h1
  exact H.inv s u h2 hu
 ·rename_i s t E _
  simp only [Bool.and_eq_true] at h
  obtain ⟨h1,h2,h3,h4⟩:=h
  rw [eq_of_beq h4]
  exact H.rel s t u (by simpa [Nat.blt_eq] using h1) (by simpa [Nat.blt_eq] using h2) (by simpa using h3) hu
 ·cases h
theorem jZ {lb:Nat→Nat→Nat} :∀(tw:List Lv),xB lb tw=true→wG lb tw
 | [],_=>⟨fun g u hg=>by simp at hg,fun g u hg=>by simp at hg,fun i j u hi=>by simp at hi⟩
 | L :: r,h=>by
  rw [xB,Bool.and_eq_true] at h
  have ih:=jZ r h.2
  refine ⟨fun g u hg hu=> ?_,fun g u hg hu=> ?_,fun i j u hi hj hij hu=> ?_⟩
  ·match u,hu with
   | [],hu=>cases hu
   | d :: u,hu=>
    rw [fR,Bool.and_eq_true] at hu
    have hd:d < L.N:=by simpa using hu.1
    obtain ⟨s1,s2,_⟩:=gw h.1 hd hg
    rw [tf]
    split
    ·rename_i hl;rw [fR,Bool.and_eq_true];exact ⟨by simpa using hl,hu.2⟩
    ·rename_i hl;rw [fR,Bool.and_eq_true];exact ⟨hu.1,ih.ok _ u (s2 hl) hu.2⟩
  ·match u,hu with
   | [],hu=>cases hu
   | d :: u,hu=>
    rw [fR,Bool.and_eq_true] at hu
    have hd:d < L.N:=by simpa using hu.1
    obtain ⟨s1,s2,_⟩:=gw h.1 hd hg
    by_cases hl:ev L d g < L.N
    ·have e:tf (L :: r) g (d :: u)=ev L d g :: u:=by rw [tf,if_pos hl]
     rw [e,tf,(s1 hl).1,if_pos hd]
    ·have e:tf (L :: r) g (d :: u)=d :: tf r (ev L d g - L.N) u:=by rw [tf,if_neg hl]
     rw [e,tf,if_neg hl,ih.inv _ u (s2 hl) hu.2]
  ·match u,hu with
   | [],hu=>cases hu
   | d :: u,hu=>
    rw [fR,Bool.and_eq_true] at hu
    have hd:d < L.N:=by simpa using hu.1
    obtain ⟨_,_,s3⟩:=gw h.1 hd hi
    obtain ⟨r1,r2⟩:=s3 j hj hij
    rw [n9,r1,ye ih r2 hu.2]
structure vz {Y:Type} (lb:Nat→Nat→Nat) (n:Nat) (F:Nat→Y→Y):Prop where
 inv:∀g y,g < n→F g (F g y)=y
 rel:∀i j y,i < n→j < n→i≠j→cC F y (gB i j (lb i j))=y
def par (L:Lv) (d:Nat):Nat:=((List.range 5).find? fun g=>Nat.blt (ev L d g) d).getD 0
def runK (L:Lv) (d t:Nat):List Nat→Nat→Option (Nat×List Nat)
 | [],c=>some (c, [])
 | g :: w,c=>
  if ev L c g < L.N then
   (if (g=t∧c≤d∧ev L c g≤d)∨(c < d∧ev L c g < d) then runK L d t w (ev L c g) else none)
  else (if c < d then (runK L d t w c).map fun p=>(p.1,(ev L c g - L.N) :: p.2) else none)
def rF (t g:Nat) (m:Nat):List Nat:=(gB t g m).dropLast
def Cv (lb:Nat→Nat→Nat) (k:Nat) (L:Lv):Bool:=
 Nat.blt 0 L.N && (Nat.blt (ev L 0 k) L.N && ((List.range k).all (fun g=>ev L 0 g == L.N + g) && (List.range L.N).all fun d=>d == 0 || (Nat.blt (ev L d (par L d)) d && (Nat.blt (par L d) (k + 1) && (List.range (k + 1)).all fun g=>
  g == par L d || (if ev L d g < L.N then (Nat.blt d (ev L d g) || runK L d (par L d) (rF (par L d) g (lb (par L d) g)) d == some (ev L d g, []))
   else runK L d (par L d) (rF (par L d) g (lb (par L d) g)) d == some (d, [ev L d g - L.N]))))))
def nv (lb:Nat→Nat→Nat):List Lv→Bool
 | []=>true
 | L :: r=>Cv lb r.length L && nv lb r
section
variable {Y:Type} (F:Nat→Y→Y)
def zT (L:Lv) (y:Y) (d:Nat):Y:=if _h:ev L d (par L d) < d then F (par L d) (zT L y (ev L d (par L d))) else y
termination_by d
def lA (y0:Y):List Lv→List Nat→Y
 | L :: r,d :: u=>zT F L (lA y0 r u) d
 | _,_=>y0
end
theorem mb {Y:Type} (F:Nat→Y→Y) (L:Lv) (y:Y):zT F L y 0=y:=by rw [zT,dif_neg (by omega)]
theorem vB {Y:Type} {F:Nat→Y→Y} {L:Lv} {y:Y} {d:Nat} (h:ev L d (par L d) < d):zT F L y d=F (par L d) (zT F L y (ev L d (par L d))):=by
 rw [zT,dif_pos h]
theorem kg {X:Type} (f:Nat→X→X) (x:X) (v w:List Nat):cC f x (v ++ w)=cC f (cC f x v) w:=List.foldl_append
theorem qw (t g:Nat):∀m,0 < m→gB t g m=rF t g m ++ [g]
 | 0,h=>absurd h (by omega)
 | 1,_=>rfl
 | m + 2,_=>by
  have ih:=qw t g (m + 1) (by omega)
  show t :: g :: gB t g (m + 1)=rF t g (m + 2) ++ [g]
  have e:rF t g (m + 2)=t :: g :: rF t g (m + 1):=rfl
  rw [e,ih];rfl
theorem vK {Y:Type} {F:Nat→Y→Y} {lb:Nat→Nat→Nat} {n:Nat} {y0:Y} (hl:∀i j,0 < lb i j) (A:vz lb n F):∀(tw:List Lv),tw.length≤n→xB lb tw=true→nv lb tw=true→
  ∀g u,g < tw.length→fR tw u=true→F g (lA F y0 tw u)=lA F y0 tw (tf tw g u)
 | [],_,_,_=>fun g u hg=>by simp at hg
 | L :: r,hn,h,hu=>by
  have H:=jZ _ h
  rw [xB,Bool.and_eq_true] at h
  rw [nv,Bool.and_eq_true] at hu
  have hn':r.length + 1≤n:=hn
  have Hr:=jZ r h.2
  have ih:=vK (y0:=y0) hl A r (by omega) h.2 hu.2
  have hub:=hu.1
  unfold Cv at hub
  simp only [Bool.and_eq_true] at hub
  obtain ⟨hN,hk0,hz,hd⟩:=hub
  have hk0:ev L 0 r.length < L.N:=by simpa [Nat.blt_eq] using hk0
  have hN:0 < L.N:=by simpa [Nat.blt_eq] using hN
  have Q:∀d,d < L.N→∀g u,g < r.length + 1→fR r u=true→(¬ev L d g < L.N∨ev L d g < d)→F g (lA F y0 (L :: r) (d :: u))=lA F y0 (L :: r) (tf (L :: r) g (d :: u)):=by
   intro d
   induction d using Nat.strongRecOn with
   | _ d IH=>
    intro hdN g u hg hok he
    by_cases d0:d=0
    ·subst d0
     have hnl:¬ev L 0 g < L.N:=by
      rcases he with he | he
      ·exact he
      ·omega
     obtain ⟨_,s2,_⟩:=gw h.1 hN hg
     by_cases hgk:g < r.length
     ·have e:=dF.1 hz g hgk
      have e:ev L 0 g=L.N + g:=by simpa using e
      have e2:tf (L :: r) g (0 :: u)=0 :: tf r g u:=by rw [tf,if_neg hnl,e,Nat.add_sub_cancel_left]
      rw [e2]
      show F g (zT F L (lA F y0 r u) 0)=zT F L (lA F y0 r (tf r g u)) 0
      rw [mb,mb]
      exact ih g u hgk hok
     ·obtain rfl:g=r.length:=by omega
      exact absurd hk0 hnl
    ·have hdd:=dF.1 hd d hdN
     rw [Bool.or_eq_true] at hdd
     rcases hdd with hdd | hdd
     ·exact absurd (by simpa using hdd) d0
     simp only [Bool.and_eq_true] at hdd
     obtain ⟨ht,htk,hgs⟩:=hdd
     have ht:ev L d (par L d) < d:=by simpa [Nat.blt_eq] using ht
     have htk:par L d < r.length + 1:=by simpa [Nat.blt_eq] using htk
     have hpos:∀v,lA F y0 (L :: r) (d :: v)=F (par L d) (lA F y0 (L :: r) (ev L d (par L d) :: v)):=fun v=>vB ht
     generalize htt:par L d=t at *
     by_cases hgt:g=t
     ·subst hgt
      have e:tf (L :: r) g (d :: u)=ev L d g :: u:=by rw [tf,if_pos (by omega)]
      rw [e,hpos,A.inv _ _ (by omega)]
     ·
      have inv1:∀g y,g < r.length + 1→F g (F g y)=y:=fun g y hg=>A.inv g y (by omega)
      have run:∀(w:List Nat) (c:Nat) (v:List Nat) (p:Nat×List Nat),c < L.N→fR r v=true→(∀x∈w,x < r.length + 1)→runK L d t w c=some p→cC F (lA F y0 (L :: r) (c :: v)) w=lA F y0 (L :: r) (p.1 :: cC (tf r) v p.2):=by
       intro w
       induction w with
       | nil=>intro c v p _ _ _ hp;rw [runK] at hp;obtain rfl:=Option.some.inj hp;rfl
       | cons x w ihw=>
        intro c v p hc hv hw hp
        have hx:=hw x (by simp)
        have hw':∀y∈w,y < r.length + 1:=fun y hy=>hw y (by simp [hy])
        obtain ⟨s1,s2,_⟩:=gw h.1 hc hx
        rw [runK] at hp
        show cC F (F x (lA F y0 (L :: r) (c :: v))) w=_
        split at hp
        ·rename_i hlt
         split at hp
         ·rename_i hk
          have step:F x (lA F y0 (L :: r) (c :: v))=lA F y0 (L :: r) (ev L c x :: v):=by
           have low:c < d→ev L c x < d→F x (lA F y0 (L :: r) (c :: v))=lA F y0 (L :: r) (ev L c x :: v):=fun h1 h2=>by
            rcases Nat.lt_trichotomy (ev L c x) c with h3 | h3 | h3
            ·have:=IH c h1 hc x v hx hv (.inr h3)
             rw [this,tf,if_pos hlt]
            ·exact absurd h3 (s1 hlt).2
            ·have:=IH (ev L c x) h2 hlt x v hx hv (.inr (by rw [(s1 hlt).1];exact h3))
             have e2:tf (L :: r) x (ev L c x :: v)=c :: v:=by rw [tf,(s1 hlt).1,if_pos hc]
             rw [e2] at this
             rw [←this,inv1 x _ hx]
           rcases hk with ⟨k1,k2,k3⟩ | ⟨k1,k2⟩
           ·subst k1
            by_cases hcd:c=d
            ·subst hcd
             rw [hpos,inv1 x _ hx]
            ·by_cases hed:ev L c x=d
             ·rw [hed,hpos]
              have:=(s1 hlt).1
              rw [hed] at this
              rw [this]
             ·exact low (by omega) (by omega)
           ·exact low k1 k2
          rw [step]
          exact ihw _ v p hlt hv hw' hp
         ·cases hp
        ·rename_i hnl
         split at hp
         ·rename_i hcd
          cases hq:runK L d t w c with
          | none=>rw [hq] at hp;cases hp
          | some q=>
           rw [hq] at hp
           obtain rfl:=Option.some.inj hp
           have:=IH c hcd hc x v hx hv (.inl hnl)
           rw [this,tf,if_neg hnl]
           exact ihw c _ q hc (Hr.ok _ v (s2 hnl) hv) hw' hq
         ·cases hp
      have hlb:=hl t g
      have hrel:=A.rel t g (lA F y0 (L :: r) (d :: u)) (by omega) (by omega) (fun e=>hgt e.symm)
      rw [qw t g _ hlb,kg] at hrel
      have hlet:∀x∈rF t g (lb t g),x < r.length + 1:=by
       have hal:∀m,∀x∈gB t g m,x < r.length + 1:=by
        intro m
        induction m with
        | zero=>intro x hx;simp [gB] at hx
        | succ m ihm=>
         intro x hx
         simp [gB] at hx
         rcases hx with rfl | rfl | hx
         ·exact htk
         ·exact hg
         ·exact ihm x hx
       intro x hx
       exact hal _ x (List.dropLast_subset _ hx)
      have hback:cC F (lA F y0 (L :: r) (d :: u)) (rF t g (lb t g))=F g (lA F y0 (L :: r) (d :: u)):=by
       have h1:F g (cC F (lA F y0 (L :: r) (d :: u)) (rF t g (lb t g)))=lA F y0 (L :: r) (d :: u):=hrel
       rw [←h1,inv1 g _ hg,h1]
      have hgg:=dF.1 hgs g hg
      rw [Bool.or_eq_true] at hgg
      rcases hgg with hgg | hgg
      ·exact absurd (by simpa using hgg) hgt
      by_cases hlt:ev L d g < L.N
      ·rw [if_pos hlt,Bool.or_eq_true] at hgg
       rcases hgg with hgg | hgg
       ·have:d < ev L d g:=by simpa [Nat.blt_eq] using hgg
        rcases he with he | he
        ·exact absurd hlt he
        ·omega
       ·have:=run _ d u _ hdN hok hlet (eq_of_beq hgg)
        rw [hback] at this
        rw [this,tf,if_pos hlt];rfl
      ·rw [if_neg hlt] at hgg
       have:=run _ d u _ hdN hok hlet (eq_of_beq hgg)
       rw [hback] at this
       rw [this,tf,if_neg hlt];rfl
  intro g x hg hx
  match x,hx with
  | [],hx=>cases hx
  | d :: u,hx=>
   rw [fR,Bool.and_eq_true] at hx
   have hdN:d < L.N:=by simpa using hx.1
   obtain ⟨s1,s2,_⟩:=gw h.1 hdN hg
   by_cases hlt:ev L d g < L.N
   ·rcases Nat.lt_trichotomy (ev L d g) d with h3 | h3 | h3
    ·exact Q d hdN g u hg hx.2 (.inr h3)
    ·exact absurd h3 (s1 hlt).2
    ·have:=Q (ev L d g) hlt g u hg hx.2 (.inr (by rw [(s1 hlt).1];exact h3))
     have e2:tf (L :: r) g (ev L d g :: u)=d :: u:=by rw [tf,(s1 hlt).1,if_pos hdN]
     have e3:tf (L :: r) g (d :: u)=ev L d g :: u:=by rw [tf,if_pos hlt]
     rw [e2] at this
     rw [←this,A.inv _ _ (by omega),e3]
   ·exact Q d hdN g u hg hx.2 (.inl hlt)
end Go.Proofs.Ytekbhbcgoadciaa
namespace Go.Proofs.Ytekbhbcgoadciaa
def eP:List Lv→Nat
 | []=>1
 | L :: r=>L.N * eP r
def lH:List Lv→Nat→List Nat
 | [],_=> []
 | L :: r,x=>x % L.N :: lH r (x / L.N)
def nw:List Lv→List Nat→Nat
 | L :: r,d :: u=>d + L.N * nw r u
 | _,_=>0
def gE:List Lv→List Nat
 | []=> []
 | _ :: r=>0 :: gE r
def ta (tw:List Lv) (g:Nat) (x:List Nat):List Nat:=if fR tw x=true∧g < tw.length then tf tw g x else x
theorem vP:∀(tw:List Lv) (x:List Nat),fR tw x=true→nw tw x < eP tw
 | [],x,h=>by cases x with
  | nil=>decide
  | cons _ _=>cases h
 | L :: r,x,h=>by
  match x,h with
  | [],h=>cases h
  | d :: u,h=>
   rw [fR,Bool.and_eq_true] at h
   have h1:d < L.N:=by simpa using h.1
   have h2:=vP r u h.2
   rw [nw,eP]
   calc d + L.N * nw r u < L.N + L.N * nw r u:=by omega
    _=L.N * (nw r u + 1):=by rw [Nat.mul_add];omega
    _≤L.N * eP r:=Nat.mul_le_mul_left _ h2
theorem nH:∀(tw:List Lv) (x:List Nat),fR tw x=true→lH tw (nw tw x)=x
 | [],x,h=>by cases x with
  | nil=>rfl
  | cons _ _=>cases h
 | L :: r,x,h=>by
  match x,h with
  | [],h=>cases h
  | d :: u,h=>
   rw [fR,Bool.and_eq_true] at h
   have h1:d < L.N:=by simpa using h.1
   rw [nw,lH,Nat.add_mul_mod_self_left,Nat.mod_eq_of_lt h1,Nat.add_mul_div_left _ _ (by omega),Nat.div_eq_of_lt h1,Nat.zero_add,nH r u h.2]
theorem zD:∀(tw:List Lv) (x:Nat),(∀L∈tw,0 < L.N)→fR tw (lH tw x)=true
 | [],x,_=>rfl
 | L :: r,x,h=>by
  rw [lH,fR,Bool.and_eq_true]
  exact ⟨decide_eq_true (Nat.mod_lt _ (h L (by simp))),zD r _ fun M hM=>h M (by simp [hM])⟩
theorem rL:∀(tw:List Lv) (x:Nat),x < eP tw→nw tw (lH tw x)=x
 | [],x,h=>by have h:x < 1:=h;show 0=x;omega
 | L :: r,x,h=>by
  rw [eP] at h
  rw [lH,nw,rL r (x / L.N) (Nat.div_lt_of_lt_mul h),Nat.mod_add_div]
theorem lL {lb:Nat→Nat→Nat} :∀(tw:List Lv),nv lb tw=true→∀L∈tw,0 < L.N
 | [],_=>fun L h=>nomatch h
 | M :: r,h=>fun L hL=>by
  rw [nv,Bool.and_eq_true] at h
  rcases List.mem_cons.1 hL with rfl | hL
  ·have:=h.1;unfold Cv at this
   rw [Bool.and_eq_true] at this
   simpa [Nat.blt_eq] using this.1
  ·exact lL r h.2 L hL
theorem vw:∀(tw:List Lv),(∀L∈tw,0 < L.N)→fR tw (gE tw)=true
 | [],_=>rfl
 | L :: r,h=>by
  rw [gE,fR,Bool.and_eq_true]
  exact ⟨decide_eq_true (h L (by simp)),vw r fun M hM=>h M (by simp [hM])⟩
theorem vG {lb:Nat→Nat→Nat} {tw:List Lv} (H:wG lb tw) {g:Nat} {x:List Nat} (hg:g < tw.length) (hx:fR tw x=true):ta tw g x=tf tw g x∧fR tw (ta tw g x)=true:=by
 have:ta tw g x=tf tw g x:=by unfold ta;rw [if_pos ⟨hx,hg⟩]
 rw [this];exact ⟨rfl,H.ok g x hg hx⟩
theorem nX {lb:Nat→Nat→Nat} {tw:List Lv} (H:wG lb tw):∀(w:List Nat) (x:List Nat),(∀g∈w,g < tw.length)→fR tw x=true→cC (ta tw) x w=cC (tf tw) x w∧fR tw (cC (ta tw) x w)=true
 | [],x,_,hx=>⟨rfl,hx⟩
 | g :: w,x,hw,hx=>by
  obtain ⟨e,h1⟩:=vG H (hw g (by simp)) hx
  have ih:=nX H w (ta tw g x) (fun y hy=>hw y (by simp [hy])) h1
  show cC (ta tw) (ta tw g x) w=cC (tf tw) (tf tw g x) w∧fR tw (cC (ta tw) (ta tw g x) w)=true
  rw [←e];exact ih
theorem zy {tw:List Lv} {x:List Nat} (hx:¬fR tw x=true):∀(w:List Nat),cC (ta tw) x w=x
 | []=>rfl
 | g :: w=>by
  show cC (ta tw) (ta tw g x) w=x
  have:ta tw g x=x:=by unfold ta;rw [if_neg fun h=>hx h.1]
  rw [this];exact zy hx w
theorem rP {lb:Nat→Nat→Nat} {tw:List Lv} (H:wG lb tw) (g:Nat) (x:List Nat):ta tw g (ta tw g x)=x:=by
 by_cases h:fR tw x=true∧g < tw.length
 ·obtain ⟨e,h1⟩:=vG H h.2 h.1
  rw [(vG H h.2 h1).1,e];exact H.inv g x h.2 h.1
 ·have e:ta tw g x=x:=by unfold ta;rw [if_neg h]
  rw [e,e]
theorem n7 {i j:Nat} :∀ {m x:Nat},x∈gB i j m→x=i∨x=j
 | 0,x,h=>nomatch h
 | m + 1,x,h=>by
  rcases List.mem_cons.1 h with h | h
  ·exact .inl h
  rcases List.mem_cons.1 h with h | h
  ·exact .inr h
  ·exact n7 h
theorem yH {lb:Nat→Nat→Nat} {tw:List Lv} (H:wG lb tw):vz lb tw.length (ta tw):=by
 refine ⟨fun g x _=>rP H g x,fun i j x hi hj hij=> ?_⟩
 by_cases hx:fR tw x=true
 ·rw [(nX H _ x (fun g hg=>by rcases n7 hg with rfl | rfl<;>assumption) hx).1]
  exact H.rel i j x hi hj hij hx
 ·exact zy hx _
def xp (L:Lv) (d:Nat):Nat:=L.T.row d >>> (L.W * 5)
def lE (I s:Nat):Bool:=s ||| I == I
def uk (I:Nat):List Lv→List Nat→Bool
 | L :: r,d :: u=>lE I (xp L d) && uk I r u
 | _,_=>true
def DC (k:Nat) (L:Lv):Bool:=
 (List.range L.N).all fun d=>(if Nat.blt 0 d then xp L d == (xp L (ev L d (par L d)) ||| 2 ^ par L d) else xp L d == 0) && (List.range (k + 1)).all fun g=>
  if ev L d g < L.N then lE (xp L d ||| 2 ^ g) (xp L (ev L d g)) else lE (xp L d ||| 2 ^ g) (2 ^ (ev L d g - L.N))
def pM:List Lv→Bool
 | []=>true
 | L :: r=>DC r.length L && pM r
theorem qM {a b c:Nat} (h:lE b a=true) (k:lE c b=true):lE c a=true:=by
 have h:a ||| b=b:=by simpa [lE] using h
 have k:b ||| c=c:=by simpa [lE] using k
 have:a ||| c=c:=by rw [←k,←Nat.or_assoc,h]
 simpa [lE] using this
theorem zA {a b c:Nat} :lE c (a ||| b)=true↔lE c a=true∧lE c b=true:=by
 constructor
 ·intro h
  have h:a ||| b ||| c=c:=by simpa [lE] using h
  refine ⟨?_, ?_⟩
  ·have:a ||| c=c:=by rw [←h];simp only [←Nat.or_assoc,Nat.or_self]
   simpa [lE] using this
  ·have:b ||| c=c:=by rw [←h,←Nat.or_assoc,←Nat.or_assoc,Nat.or_comm b a,Nat.or_assoc a b b,Nat.or_self]
   simpa [lE] using this
 ·rintro ⟨h,k⟩
  have h:a ||| c=c:=by simpa [lE] using h
  have k:b ||| c=c:=by simpa [lE] using k
  have:a ||| b ||| c=c:=by rw [Nat.or_assoc,k,h]
  simpa [lE] using this
theorem yY (c:Nat):lE c 0=true:=by simp [lE]
theorem po {lb:Nat→Nat→Nat} {I:Nat} :∀(tw:List Lv),xB lb tw=true→pM tw=true→∀(g:Nat) (x:List Nat),g < tw.length→lE I (2 ^ g)=true→fR tw x=true→uk I tw x=true→uk I tw (tf tw g x)=true
 | [],_,_=>fun g x hg=>by simp at hg
 | L :: r,hB,h=>fun g x hg hI hx hs=>by
  rw [xB,Bool.and_eq_true] at hB
  match x,hx with
  | [],hx=>cases hx
  | d :: u,hx=>
   rw [fR,Bool.and_eq_true] at hx
   rw [pM,Bool.and_eq_true] at h
   rw [uk,Bool.and_eq_true] at hs
   have hd:d < L.N:=by simpa using hx.1
   have hb:=dF.1 (Bool.and_eq_true .. ▸ dF.1 h.1 d hd).2 g hg
   have hu:=zA.2 ⟨hs.1,hI⟩
   obtain ⟨_,s2,_⟩:=gw hB.1 hd hg
   rw [tf]
   split
   ·rename_i hl
    rw [if_pos hl] at hb
    rw [uk,Bool.and_eq_true]
    exact ⟨qM hb hu,hs.2⟩
   ·rename_i hl
    rw [if_neg hl] at hb
    rw [uk,Bool.and_eq_true]
    exact ⟨hs.1,po r hB.2 h.2 _ u (s2 hl) (qM hb hu) hx.2 hs.2⟩
theorem zP {k:Nat} {L:Lv} (h:DC k L=true) {d:Nat} (hd:d < L.N):(d=0→xp L d=0)∧(0 < d→xp L d=(xp L (ev L d (par L d)) ||| 2 ^ par L d)):=by
 have h1:=dF.1 h d hd
 rw [Bool.and_eq_true] at h1
 refine ⟨fun h0=> ?_,fun h0=> ?_⟩
 ·have:=h1.1
  rw [if_neg (by simp [Nat.blt_eq];omega)] at this
  exact eq_of_beq this
 ·have:=h1.1
  rw [if_pos (by simpa [Nat.blt_eq] using h0)] at this
  exact eq_of_beq this
theorem vD {lb:Nat→Nat→Nat} {k:Nat} {L:Lv} (h:Cv lb k L=true) {d:Nat} (h0:0 < d) (hd:d < L.N):ev L d (par L d) < d∧par L d < k + 1:=by
 unfold Cv at h
 simp only [Bool.and_eq_true] at h
 have:=dF.1 h.2.2.2 d hd
 rw [Bool.or_eq_true] at this
 rcases this with h1 | h1
 ·have:d=0:=by simpa using h1
  omega
 ·simp only [Bool.and_eq_true] at h1
  exact ⟨by simpa [Nat.blt_eq] using h1.1,by simpa [Nat.blt_eq] using h1.2.1⟩
theorem y8 {lb:Nat→Nat→Nat} {k:Nat} {L:Lv} (h:Cv lb k L=true) {g:Nat} (hg:g < k):ev L 0 g=L.N + g:=by
 unfold Cv at h
 simp only [Bool.and_eq_true] at h
 simpa using dF.1 h.2.2.1 g hg
theorem sn {Y:Type} {F:Nat→Y→Y} {lb:Nat→Nat→Nat} {y0:Y} {I:Nat} {n:Nat} (hF:∀g,g < n→lE I (2 ^ g)=true→F g y0=y0):∀(tw:List Lv),tw.length≤n→nv lb tw=true→pM tw=true→∀x,fR tw x=true→uk I tw x=true→lA F y0 tw x=y0
 | [],_,_,_=>fun x _ _=>by cases x<;>rfl
 | L :: r,hn,h,hS=>fun x hx hs=>by
  rw [pM,Bool.and_eq_true] at hS
  have hn':r.length + 1≤n:=hn
  rw [nv,Bool.and_eq_true] at h
  match x,hx with
  | [],hx=>cases hx
  | d :: u,hx=>
   rw [fR,Bool.and_eq_true] at hx
   rw [uk,Bool.and_eq_true] at hs
   show zT F L (lA F y0 r u) d=y0
   rw [sn hF r (by omega) h.2 hS.2 u hx.2 hs.2]
   have hd:d < L.N:=by simpa using hx.1
   have hs1:=hs.1
   clear hx hs
   induction d using Nat.strongRecOn with
   | _ d ih=>
    by_cases d0:d=0
    ·subst d0;exact mb F L y0
    ·obtain ⟨p1,p2⟩:=vD h.1 (by omega) hd
     rw [vB p1]
     have e:=(zP hS.1 hd).2 (by omega)
     rw [e,zA] at hs1
     rw [ih _ p1 (by omega) hs1.1]
     exact hF _ (by omega) hs1.2
theorem yv {lb:Nat→Nat→Nat} :∀(tw:List Lv),xB lb tw=true→nv lb tw=true→∀x,fR tw x=true→∃w,(∀g∈w,g < tw.length)∧cC (tf tw) (gE tw) w=x
 | [],_,_=>fun x hx=>⟨[],by simp,by cases x with
  | nil=>rfl
  | cons _ _=>cases hx⟩
 | L :: r,hB,h=>fun x hx=>by
  rw [xB,Bool.and_eq_true] at hB
  rw [nv,Bool.and_eq_true] at h
  match x,hx with
  | [],hx=>cases hx
  | d :: u,hx=>
   rw [fR,Bool.and_eq_true] at hx
   have hd:d < L.N:=by simpa using hx.1
   have h0N:0 < L.N:=by omega
   obtain ⟨w,hw,e⟩:=yv r hB.2 h.2 u hx.2
   have low:∀(w:List Nat) (v:List Nat),(∀g∈w,g < r.length)→cC (tf (L :: r)) (0 :: v) w=0 :: cC (tf r) v w:=by
    intro w
    induction w with
    | nil=>intro v _;rfl
    | cons g w ihw=>
     intro v hg
     show cC (tf (L :: r)) (tf (L :: r) g (0 :: v)) w=0 :: cC (tf r) (tf r g v) w
     have e0:=y8 h.1 (hg g (by simp))
     rw [tf,if_neg (by omega),e0,Nat.add_sub_cancel_left]
     exact ihw _ fun y hy=>hg y (by simp [hy])
   have base:cC (tf (L :: r)) (gE (L :: r)) w=0 :: u:=by
    have:=low w (gE r) hw
    rw [e] at this;exact this
   suffices ∃v,(∀g∈v,g < r.length + 1)∧cC (tf (L :: r)) (0 :: u) v=d :: u by
    obtain ⟨v,v1,v2⟩:=this
    refine ⟨w ++ v,fun g hg=> ?_,by rw [kg,base];exact v2⟩
    rcases List.mem_append.1 hg with hg | hg
    ·have:=hw g hg;show g < r.length + 1;omega
    ·exact v1 g hg
   clear hx base low e w hw
   induction d using Nat.strongRecOn with
   | _ d ih=>
    by_cases d0:d=0
    ·subst d0;exact ⟨[],by simp,rfl⟩
    ·obtain ⟨p1,p2⟩:=vD h.1 (by omega) hd
     obtain ⟨v,v1,v2⟩:=ih _ p1 (by omega)
     refine ⟨v ++ [par L d],fun g hg=> ?_, ?_⟩
     ·rcases List.mem_append.1 hg with hg | hg
      ·exact v1 g hg
      ·simp at hg;subst hg;exact p2
     ·rw [kg,v2]
      show tf (L :: r) (par L d) (ev L d (par L d) :: u)=d :: u
      have s1:=((gw hB.1 hd p2).1 (by omega)).1
      rw [tf,s1,if_pos hd]
theorem tG {Y:Type} (F:Nat→Y→Y) (y0:Y):∀tw:List Lv,lA F y0 tw (gE tw)=y0
 | []=>rfl
 | L :: r=>by
  show zT F L (lA F y0 r (gE r)) 0=y0
  rw [mb];exact tG F y0 r
theorem tE (I:Nat):∀tw:List Lv,pM tw=true→(∀L∈tw,0 < L.N)→uk I tw (gE tw)=true
 | [],_,_=>rfl
 | L :: r,h,hp=>by
  rw [pM,Bool.and_eq_true] at h
  show (lE I (xp L 0) && uk I r (gE r))=true
  rw [(zP h.1 (hp L (by simp))).1 rfl,yY,tE I r h.2 fun M hM=>hp M (by simp [hM])];rfl
theorem tR {Y:Type} {F:Nat→Y→Y} {lb:Nat→Nat→Nat} {y0:Y} {tw:List Lv} (hl:∀i j,0 < lb i j) (A:vz lb tw.length F) (hB:xB lb tw=true) (hU:nv lb tw=true):∀(w:List Nat) (x:List Nat),(∀g∈w,g < tw.length)→fR tw x=true→lA F y0 tw (cC (tf tw) x w)=cC F (lA F y0 tw x) w
 | [],x,_,_=>rfl
 | g :: w,x,hw,hx=>by
  have hg:=hw g (by simp)
  show lA F y0 tw (cC (tf tw) (tf tw g x) w)=cC F (F g (lA F y0 tw x)) w
  rw [tR hl A hB hU w _ (fun y hy=>hw y (by simp [hy])) ((jZ tw hB).ok g x hg hx),vK hl A tw (Nat.le_refl _) hB hU g x hg hx]
theorem qy (i j:Nat):∀m,gB i j (m + 1)=gB i j m ++ [i,j]
 | 0=>rfl
 | m + 1=>by
  show i :: j :: gB i j (m + 1)=i :: j :: gB i j m ++ [i,j]
  rw [qy i j m];rfl
theorem o7 (i j:Nat):∀m,(gB i j m).reverse=gB j i m
 | 0=>rfl
 | m + 1=>by
  rw [qy,List.reverse_append,o7 i j m];rfl
theorem lW {X:Type} {f:Nat→X→X} {n:Nat} (hi:∀g x,g < n→f g (f g x)=x):∀(w:List Nat) (x:X),(∀g∈w,g < n)→cC f (cC f x w) w.reverse=x
 | [],x,_=>rfl
 | g :: w,x,hw=>by
  rw [List.reverse_cons,kg]
  show f g (cC f (cC f (f g x) w) w.reverse)=x
  rw [lW hi w _ fun y hy=>hw y (by simp [hy])]
  exact hi g x (hw g (by simp))
def uE (tw:List Lv) (g:Nat) (S:List Nat→Prop):List Nat→Prop:=fun x=>S (ta tw g x)
theorem oF (tw:List Lv):∀(w:List Nat) (S:List Nat→Prop),cC (uE tw) S w=fun x=>S (cC (ta tw) x w.reverse)
 | [],S=>rfl
 | g :: w,S=>by
  show cC (uE tw) (uE tw g S) w=_
  rw [oF tw w]
  funext x
  rw [List.reverse_cons,kg];rfl
def A0 (tw:List Lv) (I:Nat):List Nat→Prop:=fun x=>fR tw x=true∧uk I tw x=true
theorem xf {lb:Nat→Nat→Nat} {tw:List Lv} {I g:Nat} (hB:xB lb tw=true) (hS:pM tw=true) (hg:g < tw.length) (hI:lE I (2 ^ g)=true):uE tw g (A0 tw I)=A0 tw I:=by
 funext x
 have H:=jZ tw hB
 unfold uE A0
 by_cases hx:fR tw x=true
 ·obtain ⟨e,ok⟩:=vG H hg hx
  refine propext ⟨fun h=>⟨hx, ?_⟩,fun h=>⟨ok, ?_⟩⟩
  ·have:=po tw hB hS g _ hg hI h.1 h.2
   rw [e,H.inv g x hg hx] at this;exact this
  ·rw [e];exact po tw hB hS g x hg hI hx h.2
 ·have e:ta tw g x=x:=by unfold ta;rw [if_neg fun h=>hx h.1]
  rw [e]
def mG (I:Nat):List Lv→Nat
 | []=>1
 | L :: r=>((List.range L.N).filter fun d=>lE I (xp L d)).length * mG I r
theorem mU (a:Nat) (ha:0 < a) (p q:Nat→Bool):∀b,((List.range (a * b)).filter fun x=>p (x % a) && q (x / a)).length=((List.range a).filter p).length * ((List.range b).filter q).length
 | 0=>by simp
 | b + 1=>by
  rw [Nat.mul_succ,List.range_add,List.filter_append,List.length_append,mU a ha p q b,List.range_succ,List.filter_append,List.length_append,Nat.mul_add]
  congr 1
  rw [List.filter_map,List.length_map]
  cases hq:q b with
  | true=>
   have e:([b].filter q).length=1:=by simp [hq]
   rw [e,Nat.mul_one]
   congr 1
   refine List.filter_congr fun x hx=> ?_
   have hx:=List.mem_range.1 hx
   show (p ((a * b + x) % a) && q ((a * b + x) / a))=p x
   rw [Nat.mul_add_mod,Nat.mod_eq_of_lt hx,Nat.mul_add_div ha,Nat.div_eq_of_lt hx,Nat.add_zero,hq,Bool.and_true]
  | false=>
   have e:([b].filter q).length=0:=by simp [hq]
   rw [e,Nat.mul_zero,List.length_eq_zero_iff,List.filter_eq_nil_iff]
   intro x hx
   have hx:=List.mem_range.1 hx
   show ¬(p ((a * b + x) % a) && q ((a * b + x) / a))=true
   rw [Nat.mul_add_div ha,Nat.div_eq_of_lt hx,Nat.add_zero,hq,Bool.and_false];simp
theorem vN (I:Nat):∀tw:List Lv,(∀L∈tw,0 < L.N)→((List.range (eP tw)).filter fun x=>uk I tw (lH tw x)).length=mG I tw
 | [],_=>by simp [eP,uk,mG]
 | L :: r,h=>by
  rw [mG,←vN I r fun M hM=>h M (by simp [hM])]
  exact mU L.N (h L (by simp)) (fun d=>lE I (xp L d)) (fun x=>uk I r (lH r x)) (eP r)
end Go.Proofs.Ytekbhbcgoadciaa
namespace Go.Proofs.Ytekbhbcgoadciaa
structure Ext (ng:Nat) (im:List (List Int)) (less:List Int) (im':List (List Int)) (less':List Int):Prop where
 len:less.length≤less'.length
 eqv:∀a b,a < less.length→b < less.length→root less a=root less b→root less' a=root less' b
 we:∀c g,c < less.length→g < ng→0≤bD im (root less c) g→0≤bD im' (root less' c) g∧root less' (bD im' (root less' c) g).toNat=root less' (bD im (root less c) g).toNat
theorem Ext.refl (ng:Nat) (im:List (List Int)) (less:List Int):Ext ng im less im less:=⟨Nat.le_refl _,fun _ _ _ _ h=>h,fun _ _ _ _ h=>⟨h,rfl⟩⟩
theorem Ext.trans {ng:Nat} {a b c:List (List Int)} {x y z:List Int} (h:Ext ng a x b y) (k:Ext ng b y c z) (ha:WF ng a x) (hb:WF ng b y):Ext ng a x c z:=
 ⟨Nat.le_trans h.len k.len,fun i j hi hj e=>k.eqv i j (Nat.lt_of_lt_of_le hi h.len) (Nat.lt_of_lt_of_le hj h.len) (h.eqv i j hi hj e),fun i g hi hg h0=>by
  obtain ⟨h1,h2⟩:=h.we i g hi hg h0
  have hl:=h.len
  have hi':i < y.length:=by omega
  obtain ⟨h3,h4⟩:=k.we i g hi' hg h1
  have e1:=hb.bD (root y i) g (by rw [hb.len];exact cw hb.down hi') hg
  have e2:=ha.bD (root x i) g (by rw [ha.len];exact cw ha.down hi) hg
  exact ⟨h3,h4.trans (k.eqv _ _ (by omega) (by omega) h2)⟩⟩
def ny (im:List (List Int)) (less:List Int) (c:Nat):List Nat→Option Nat
 | []=>some (root less c)
 | g :: r=>if 0≤bD im (root less c) g then ny im less (bD im (root less c) g).toNat r else none
theorem lI {im:List (List Int)} {less:List Int} {a b:Nat} (h:root less a=root less b) (w:List Nat):ny im less a w=ny im less b w:=by
 cases w with
 | nil=>simp [ny,h]
 | cons g r=>simp only [ny,h]
theorem l5 {im:List (List Int)} {less:List Int} :∀(u:List Nat) (c d g:Nat),ny im less c u=some d→0≤bD im d g→ny im less c (u ++ [g])=some (root less (bD im d g).toNat)
 | [],c,d,g,h,h0=>by
  simp [ny] at h;subst h
  simp [ny,h0]
 | k :: r,c,d,g,h,h0=>by
  simp only [List.cons_append,ny] at h ⊢
  split at h
  ·rename_i h1
   rw [if_pos h1];exact l5 r _ d g h h0
  ·cases h
theorem Ext.path {ng:Nat} {im im':List (List Int)} {less less':List Int} (h:Ext ng im less im' less') (hw:WF ng im less):∀(w:List Nat) (c d:Nat),c < less.length→(∀g∈w,g < ng)→ny im less c w=some d→ny im' less' c w=some (root less' d)
 | [],c,d,hc,_,hp=>by
  simp [ny] at hp;subst hp
  simp only [ny]
  rw [h.eqv c (root less c) hc (cw hw.down hc) (fX hw.down hc).symm]
 | g :: r,c,d,hc,hg,hp=>by
  simp only [ny] at hp ⊢
  split at hp
  ·rename_i h0
   obtain ⟨h1,h2⟩:=h.we c g hc (hg g (by simp)) h0
   have e:=hw.bD (root less c) g (by rw [hw.len];exact cw hw.down hc) (hg g (by simp))
   rw [if_pos h1,lI h2]
   exact h.path hw r _ d (by omega) (fun x hx=>hg x (by simp [hx])) hp
  ·cases hp
theorem Ext.set {ng:Nat} {im:List (List Int)} {less:List Int} (hw:WF ng im less) {c g:Nat} {z:Int} (hc:c < less.length) (hg:g < ng) (h0:bD im c g < 0):Ext ng im less (dq im c g z) less:=
 ⟨Nat.le_refl _,fun _ _ _ _ h=>h,fun a k _ _ hp=>by
  have e:=dN (im:=im) (c:=c) (g:=g) (k:=root less a) (j:=k) (z:=z) (by rw [hw.len];exact hc) (by rw [hw.row c (by rw [hw.len];exact hc)];exact hg)
  rw [if_neg (by rintro ⟨e1,e2⟩;rw [←e1,←e2] at hp;omega)] at e
  rw [e];exact ⟨hp,rfl⟩⟩
theorem Ext.app {ng:Nat} {im:List (List Int)} {less:List Int} (hw:WF ng im less):Ext ng im less (im ++ [List.replicate ng (-1)]) (less ++ [(less.length:Int)]):=by
 have hl:=hw.len
 have hra:=sS hw.down
 refine ⟨by simp,fun a b ha hb h=>by rw [hra a ha,hra b hb,h],fun a k ha hk h0=> ?_⟩
 have hr:=cw hw.down ha
 have e:bD (im ++ [List.replicate ng (-1)]) (root less a) k=bD im (root less a) k:=by unfold bD;rw [dY (by omega)]
 rw [hra a ha,e]
 exact ⟨h0,rfl⟩
theorem qO {ng:Nat} {im:List (List Int)} {less:List Int} {c g:Nat} (hw:WF ng im less) (hc:c < less.length) (hg:g < ng) (hlc:aC less c=(c:Int)):Ext ng im less (bI ng im less c g).1 (bI ng im less c g).2.1∧
  ((bI ng im less c g).2.2.1=false→0≤bD (bI ng im less c g).1 c g∧root (bI ng im less c g).2.1 (bD (bI ng im less c g).1 c g).toNat=(bI ng im less c g).2.2.2∧root (bI ng im less c g).2.1 c=c):=by
 unfold bI
 split
 ·rename_i h0
  exact ⟨Ext.refl _ _ _,fun _=>⟨h0,rfl,cD hlc⟩⟩
 ·rename_i h0
  split
  ·exact ⟨Ext.refl _ _ _,fun h=>nomatch h⟩
  ·have hl:=hw.len
   have w1:=hw.app
   have ec:bD (im ++ [List.replicate ng (-1)]) c g=bD im c g:=by unfold bD;rw [dY (by omega)]
   have en:bD (im ++ [List.replicate ng (-1)]) less.length g= -1:=by unfold bD;rw [←hl,eL,fb hg]
   have w2:=w1.fl (c:=c) (g:=g) (z:=(less.length:Int)) (by simp;omega) hg (by simp;omega)
   have e2:∀a k,bD (dq (im ++ [List.replicate ng (-1)]) c g (less.length:Int)) a k=if c=a∧g=k then (less.length:Int) else bD (im ++ [List.replicate ng (-1)]) a k:=fun a k=>dN (by simp;omega) (by rw [w1.row _ (by simp;omega)];exact hg)
   have e3:∀a k,bD (kY ng im less.length c g) a k=if less.length=a∧g=k then (c:Int) else bD (dq (im ++ [List.replicate ng (-1)]) c g (less.length:Int)) a k:=fun a k=>by
    unfold kY
    exact dN (by rw [cU];simp;omega) (by rw [w2.row _ (by rw [cU];simp;omega)];exact hg)
   have x1:=Ext.app (ng:=ng) hw
   have x2:=Ext.set (z:=(less.length:Int)) w1 (c:=c) (g:=g) (by simp;omega) hg (by omega)
   have x3:=Ext.set (z:=(c:Int)) w2 (c:=less.length) (g:=g) (by simp) hg (by rw [e2,if_neg (by omega)];omega)
   refine ⟨(x1.trans x2 hw w1).trans x3 hw w2,fun _=> ?_⟩
   have e4:=e3 c g
   rw [if_neg (by omega),e2,if_pos ⟨rfl,rfl⟩] at e4
   dsimp only
   rw [e4]
   exact ⟨by omega,by rw [Int.toNat_natCast];exact cD dH,cD (by rw [cx hc];exact hlc)⟩
theorem wC {ng lo hi:Nat} {im:List (List Int)} {less:List Int} {p:Int×Int} {q:List (Int×Int)} (h:WF ng im less) (hp:p.1.toNat < less.length∧p.2.toNat < less.length) (hlt:lo < hi) (hhi:hi < less.length) (hl0:aC less lo=(lo:Int)) (hh0:aC less hi=(hi:Int))
  (hr:(root less p.1.toNat=lo∧root less p.2.toNat=hi)∨(root less p.1.toNat=hi∧root less p.2.toNat=lo)):
  (∀a b,gD less (p :: q) a b→gD (less.set hi (lo:Int)) (bm lo hi (im,q) ng).2 a b)∧
  ∀r g,r < less.length→g < ng→0≤bD im r g→0≤bD (bm lo hi (im,q) ng).1 (if r=hi then lo else r) g∧gD (less.set hi (lo:Int)) (bm lo hi (im,q) ng).2 (bD (bm lo hi (im,q) ng).1 (if r=hi then lo else r) g).toNat (bD im r g).toNat:=by
 have hil:lo < im.length:=by rw [h.len];omega
 obtain ⟨m1,m2,m3,m4,_⟩:=js (q:=q) h hil (by omega:lo≠hi) ng (Nat.le_refl _)
 have hrs:=oY h.down hlt hhi hl0 hh0
 generalize (bm lo hi (im,q) ng).1=im' at *
 generalize (bm lo hi (im,q) ng).2=q' at *
 have hlh:gD (less.set hi (lo:Int)) q' hi lo:=by
  have:=gD.root (less:=less.set hi (lo:Int)) (q:=q') hi (by rw [List.length_set];exact hhi)
  rwa [hrs hi hhi,cD hh0,if_pos rfl] at this
 have hroot:∀a,a < less.length→gD (less.set hi (lo:Int)) q' a (root less a):=fun a ha=>by
  have:=gD.root (less:=less.set hi (lo:Int)) (q:=q') a (by rw [List.length_set];exact ha)
  rw [hrs a ha] at this
  by_cases e:root less a=hi
  ·rw [if_pos e] at this;rw [e];exact this.trans hlh.symm
  ·rwa [if_neg e] at this
 have elo:∀g,g < ng→(0≤bD im lo g→bD im' lo g=bD im lo g)∧(0≤bD im hi g→0≤bD im' lo g∧gD (less.set hi (lo:Int)) q' (bD im' lo g).toNat (bD im hi g).toNat):=fun g hg=>by
  have e:=m2 g hg
  refine ⟨fun h0=> ?_,fun h0=> ?_⟩
  ·rw [e];split<;>first | rfl | rw [if_pos h0]
  ·by_cases h1:0≤bD im lo g
   ·rw [e,if_neg (by omega),if_pos h1]
    exact ⟨h1,(gD.pair _ (m4 g hg h0 h1)).symm⟩
   ·rw [e,if_neg (by omega),if_neg h1]
    exact ⟨h0, .refl _⟩
 refine ⟨fun a b hab=>gD.mono hroot (fun x hx=> ?_) hab,fun r g hr' hg h0=> ?_⟩
 ·rcases List.mem_cons.1 hx with rfl | hx
  ·have k1:=hroot _ hp.1
   have k2:=hroot _ hp.2
   rcases hr with ⟨r1,r2⟩ | ⟨r1,r2⟩
   ·rw [r1] at k1;rw [r2] at k2;exact k1.trans (hlh.symm.trans k2.symm)
   ·rw [r1] at k1;rw [r2] at k2;exact k1.trans (hlh.trans k2.symm)
  ·exact .pair x (m3 x hx)
 ·by_cases e:r=hi
  ·subst e;rw [if_pos rfl];exact (elo g hg).2 h0
  ·rw [if_neg e]
   by_cases e2:r=lo
   ·subst e2;rw [(elo g hg).1 h0];exact ⟨h0, .refl _⟩
   ·rw [m1 r g (.inl e2)];exact ⟨h0, .refl _⟩
structure Bm (ng:Nat) (im0:List (List Int)) (less0:List Int) (im:List (List Int)) (less:List Int) (q:List (Int×Int)):Prop where
 eqv:∀a b,a < less0.length→b < less0.length→root less0 a=root less0 b→gD less q a b
 we:∀c g,c < less0.length→g < ng→0≤bD im0 (root less0 c) g→0≤bD im (root less c) g∧gD less q (bD im (root less c) g).toNat (bD im0 (root less0 c) g).toNat
theorem iS {ng n a0 b0:Nat} {im0:List (List Int)} {less0:List Int} (h0:less0.length=n):∀(f:Nat) (im:List (List Int)) (less:List Int) (q:List (Int×Int)),WF ng im less→less.length=n→kT n q→fuel ng less q≤f→Bm ng im0 less0 im less q→gD less q a0 b0→
  Bm ng im0 less0 (bY ng f im less q).1 (bY ng f im less q).2 []∧gD (bY ng f im less q).2 [] a0 b0
 | 0,im,less,q,h,hn,hq,hf,hE,hab=>by
  have:q= []:=List.eq_nil_of_length_eq_zero (by unfold fuel at hf;omega)
  subst this;exact ⟨hE,hab⟩
 | f + 1,im,less, [],h,hn,hq,hf,hE,hab=>⟨hE,hab⟩
 | f + 1,im,less,p :: q,h,hn,hq,hf,hE,hab=>by
  have hp:=hq p (by simp)
  have hq':kT less.length q:=fun x hx=>hn ▸ hq x (by simp [hx])
  have hr1:=dJ h.down p.1.toNat (by omega)
  have hr2:=dJ h.down p.2.toNat (by omega)
  have hfu:fuel ng less (p :: q)=fuel ng less q + 1:=by unfold fuel;simp;omega
  simp only [bY]
  split
  ·rename_i he
   have mono:∀a b,gD less (p :: q) a b→gD less q a b:=fun a b hab=>hab.mono (fun a ha=> .root a ha) fun x hx=>by
    rcases List.mem_cons.1 hx with rfl | hx
    ·have k1:=gD.root (less:=less) (q:=q) x.1.toNat (by omega)
     have k2:=gD.root (less:=less) (q:=q) x.2.toNat (by omega)
     rw [he] at k1;exact k1.trans k2.symm
    ·exact .pair x hx
   exact iS h0 f im less q h hn (fun x hx=>hq x (by simp [hx])) (by omega) ⟨fun a b ha hb e=>mono _ _ (hE.eqv a b ha hb e),fun c g hc hg e=>⟨(hE.we c g hc hg e).1,mono _ _ (hE.we c g hc hg e).2⟩⟩ (mono _ _ hab)
  ·rename_i hne
   have hid:=iO h (hn ▸ hq) hne
   unfold fh at hid
   obtain ⟨_,w1,w2,w3⟩:=hid
   have hroots:aC less (min (root less p.1.toNat) (root less p.2.toNat))=((min (root less p.1.toNat) (root less p.2.toNat):Nat):Int)∧aC less (max (root less p.1.toNat) (root less p.2.toNat))=((max (root less p.1.toNat) (root less p.2.toNat):Nat):Int):=by
    rcases Nat.le_total (root less p.1.toNat) (root less p.2.toNat) with h5 | h5
    ·rw [Nat.min_eq_left h5,Nat.max_eq_right h5];exact ⟨hr1.1,hr2.1⟩
    ·rw [Nat.min_eq_right h5,Nat.max_eq_left h5];exact ⟨hr2.1,hr1.1⟩
   obtain ⟨k1,k2⟩:=wC (q:=q) h (p:=p) (by omega) (lo:=min (root less p.1.toNat) (root less p.2.toNat)) (hi:=max (root less p.1.toNat) (root less p.2.toNat)) (by omega) (by omega) hroots.1 hroots.2 (by
    rcases Nat.le_total (root less p.1.toNat) (root less p.2.toNat) with h5 | h5
    ·left;rw [Nat.min_eq_left h5,Nat.max_eq_right h5];exact ⟨rfl,rfl⟩
    ·right;rw [Nat.min_eq_right h5,Nat.max_eq_left h5];exact ⟨rfl,rfl⟩)
   have hrs:=oY h.down (lo:=min (root less p.1.toNat) (root less p.2.toNat)) (hi:=max (root less p.1.toNat) (root less p.2.toNat)) (by omega) (by omega) hroots.1 hroots.2
   refine iS h0 f _ _ _ w1 (by rw [List.length_set];exact hn) (hn ▸ w2) (by omega) ⟨fun a b ha hb e=>k1 _ _ (hE.eqv a b ha hb e),fun c g hc hg e=> ?_⟩ (k1 _ _ hab)
   obtain ⟨e1,e2⟩:=hE.we c g hc hg e
   have hcl:c < less.length:=by omega
   obtain ⟨e3,e4⟩:=k2 (root less c) g (cw h.down hcl) hg e1
   rw [hrs c hcl]
   exact ⟨e3,e4.trans (k1 _ _ e2)⟩
theorem qF {ng:Nat} {im:List (List Int)} {less:List Int} {p:Int×Int} (h:WF ng im less) (hq:kT less.length [p]):
  Ext ng im less (ident ng im less [p]).1 (ident ng im less [p]).2∧root (ident ng im less [p]).2 p.1.toNat=root (ident ng im less [p]).2 p.2.toNat:=by
 obtain ⟨w,hl⟩:=gv h rfl hq
 have hh:∀a,a < less.length→gD less [p] a (root less a):=fun a ha=> .root a ha
 obtain ⟨hE,hab⟩:=iS (im0:=im) (less0:=less) rfl (fuel ng less [p]) im less [p] h rfl hq (Nat.le_refl _) ⟨fun a b ha hb e=>(hh a ha).trans (e ▸ (hh b hb).symm),fun c g _ _ e=>⟨e, .refl _⟩⟩ (gD.pair (less:=less) p (by simp))
 have hE:Bm ng im less (ident ng im less [p]).1 (ident ng im less [p]).2 []:=hE
 have hab:gD (ident ng im less [p]).2 [] p.1.toNat p.2.toNat:=hab
 exact ⟨⟨Nat.le_of_eq hl.symm,fun a b ha hb e=>(hE.eqv a b ha hb e).nG w.down,fun c g hc hg e=>⟨(hE.we c g hc hg e).1,(hE.we c g hc hg e).2.nG w.down⟩⟩,hab.nG w.down⟩
theorem vR {ng n0:Nat} :∀(w:List Nat) (s:List (List Int)×List Int×Bool×Nat),rr ng n0 s→eJ ng s.1 s.2.1 []→(s.2.2.1=false→aC s.2.1 s.2.2.2=(s.2.2.2:Int))→(∀g∈w,g < ng)→
  Ext ng s.1 s.2.1 (fO ng s w).1 (fO ng s w).2.1∧((fO ng s w).2.2.1=false→ny (fO ng s w).1 (fO ng s w).2.1 s.2.2.2 w=some (fO ng s w).2.2.2)
 | [],s,h,hB,hl,_=>⟨Ext.refl _ _ _,fun hf=>by simp only [fO,ny];rw [cD (hl hf)]⟩
 | g :: r,s,h,hB,hl,hg=>by
  unfold fO
  split
  ·rename_i hf
   exact ⟨Ext.refl _ _ _,fun h0=>by rw [hf] at h0;cases h0⟩
  ·rename_i hf
   have hld:=hl (by simpa using hf)
   obtain ⟨b1,b2,b3⟩:=hB.next h.wf h.d hld (hg g (by simp)) h.hi
   obtain ⟨h1,h2,h3,h4,_⟩:=fz h.wf h.d (hg g (by simp)) h.hi
   obtain ⟨x1,y1⟩:=qO h.wf h.d (hg g (by simp)) hld
   obtain ⟨x2,y2⟩:=vR (n0:=n0) r (bI ng s.1 s.2.1 s.2.2.2 g) ⟨h1,Nat.le_trans h.lo h2,h3,h4⟩ b1 b2 fun x hx=>hg x (by simp [hx])
   refine ⟨x1.trans x2 h.wf h1,fun hff=> ?_⟩
   have ht:(bI ng s.1 s.2.1 s.2.2.2 g).2.2.1=false:=by
    cases e:(bI ng s.1 s.2.1 s.2.2.2 g).2.2.1 with
    | false=>rfl
    | true=>rw [fQ e] at hff;rw [e] at hff;cases hff
   obtain ⟨z1,z2,z3⟩:=y1 ht
   have hd:=h.d
   have hdt:s.2.2.2 < (bI ng s.1 s.2.1 s.2.2.2 g).2.1.length:=by omega
   have he:=h1.bD s.2.2.2 g (by rw [h1.len];exact hdt) (hg g (by simp))
   obtain ⟨i1,i2⟩:=x2.we s.2.2.2 g hdt (hg g (by simp)) (by rw [z3];exact z1)
   rw [z3] at i2
   have i3:=x2.eqv (bD (bI ng s.1 s.2.1 s.2.2.2 g).1 s.2.2.2 g).toNat (bI ng s.1 s.2.1 s.2.2.2 g).2.2.2 (by omega) h4 (by rw [z2,cD (b2 ht)])
   simp only [ny]
   rw [if_pos i1,lI (i2.trans i3)]
   exact y2 hff
def Bh (im:List (List Int)) (less:List Int) (c:Nat) (w:List Nat):Prop:=ny im less c w=some (root less c)
theorem Ext.cl {ng:Nat} {im im':List (List Int)} {less less':List Int} (h:Ext ng im less im' less') (hw:WF ng im less) {c:Nat} {w:List Nat} (hc:c < less.length) (hg:∀g∈w,g < ng) (hcl:Bh im less c w):Bh im' less' c w:=by
 unfold Bh
 rw [h.path hw w c _ hc hg hcl,h.eqv (root less c) c (cw hw.down hc) hc (fX hw.down hc)]
theorem oD {ng:Nat} {im:List (List Int)} {less:List Int} {c:Nat} {w:List Nat} (h:WF ng im less) (hB:eJ ng im less []) (hc:c < less.length) (hl:aC less c=(c:Int)) (hn:less.length≤2000) (hg:∀g∈w,g < ng):
  Ext ng im less (cu ng im less c w).1 (cu ng im less c w).2.1∧((cu ng im less c w).2.2=false→Bh (cu ng im less c w).1 (cu ng im less c w).2.1 c w):=by
 unfold cu
 cases hlast:w.getLast? with
 | none=>
  have:w= []:=List.getLast?_eq_none_iff.1 hlast
  subst this
  exact ⟨Ext.refl _ _ _,fun _=>rfl⟩
 | some g=>
  have hgl:g < ng:=hg g (List.mem_of_getLast? hlast)
  have hgd:∀x∈w.dropLast,x < ng:=fun x hx=>hg x (List.dropLast_subset _ hx)
  have ok:=ll (n0:=less.length) w.dropLast (im,less,false,c) ⟨h,Nat.le_refl _,hn,hc⟩ hgd
  obtain ⟨b1,b2,b3⟩:=nL (n0:=less.length) w.dropLast (im,less,false,c) ⟨h,Nat.le_refl _,hn,hc⟩ hB (fun _=>hl) hgd
  obtain ⟨x1,y1⟩:=vR (n0:=less.length) w.dropLast (im,less,false,c) ⟨h,Nat.le_refl _,hn,hc⟩ hB (fun _=>hl) hgd
  have hww:w=w.dropLast ++ [g]:=by
   obtain ⟨ys,rfl⟩:=List.getLast?_eq_some_iff.1 hlast
   simp
  generalize hwd:w.dropLast=u at *
  generalize fO ng (im,less,false,c) u=s at *
  have hcs:c < s.2.1.length:=Nat.lt_of_lt_of_le hc ok.lo
  have hlc:aC s.2.1 c=(c:Int):=(b3 c hc).trans hl
  have x1:Ext ng im less s.1 s.2.1:=x1
  dsimp only
  split
  ·exact ⟨x1,fun h=>nomatch h⟩
  ·rename_i hf
   have y1:ny s.1 s.2.1 c u=some s.2.2.2:=y1 (by simpa using hf)
   have hld:aC s.2.1 s.2.2.2=(s.2.2.2:Int):=b2 (by simpa using hf)
   have e1:=dM ok.wf ok.d hgl
   have e2:=dM ok.wf hcs hgl
   have hd:=ok.d
   split
   ·rename_i he
    have qok:kT s.2.1.length [(image s.1 s.2.1 s.2.2.2 g,(c:Int))]:=fun p hp=>by simp at hp;subst hp;exact ⟨⟨he,e1⟩,by omega,by dsimp only;omega⟩
    obtain ⟨x2,r2⟩:=qF ok.wf qok
    refine ⟨x1.trans x2 h ok.wf,fun _=> ?_⟩
    have hee:0≤bD s.1 s.2.2.2 g:=by unfold image at he;split at he<;>omega
    have hei:(image s.1 s.2.1 s.2.2.2 g).toNat=root s.2.1 (bD s.1 s.2.2.2 g).toNat:=by unfold image;rw [if_neg (by omega)];simp
    have p1:=l5 u c s.2.2.2 g y1 hee
    rw [←hww] at p1
    have p2:=x2.path ok.wf w c _ hcs hg p1
    unfold Bh
    rw [p2,←hei]
    exact congrArg some r2
   ·rename_i he
    split
    ·rename_i hf2
     have qok:kT s.2.1.length [(image s.1 s.2.1 c g,(s.2.2.2:Int))]:=fun p hp=>by simp at hp;subst hp;exact ⟨⟨hf2,e2⟩,by omega,by dsimp only;omega⟩
     obtain ⟨x2,r2⟩:=qF ok.wf qok
     obtain ⟨w2,l2⟩:=gv ok.wf rfl qok
     have b4:=k9 ok.wf qok b1
     refine ⟨x1.trans x2 h ok.wf,fun _=> ?_⟩
     have hee:0≤bD s.1 c g:=by unfold image at hf2;split at hf2<;>omega
     have hei:(image s.1 s.2.1 c g).toNat=root s.2.1 (bD s.1 c g).toNat:=by unfold image;rw [if_neg (by omega)];simp
     have p2:=x2.path ok.wf u c _ hcs (fun x hx=>hgd x hx) y1
     obtain ⟨i1,i2⟩:=x2.we c g hcs hgl (by rw [cD hlc];exact hee)
     rw [cD hlc] at i2
     have hent:=ok.wf.bD c g (by rw [ok.wf.len];exact hcs) hgl
     have i3:=x2.eqv (bD s.1 c g).toNat (root s.2.1 (bD s.1 c g).toNat) (by omega) (cw ok.wf.down (by omega)) (fX ok.wf.down (by omega)).symm
     dsimp only at r2
     rw [hei,Int.toNat_natCast] at r2
     generalize hS:ident ng s.1 s.2.1 [(image s.1 s.2.1 c g,(s.2.2.2:Int))]=S at *
     have hcl:c < S.2.length:=by omega
     obtain ⟨j1,j2⟩:=b4.fix w2 (cw w2.down hcl) (dJ w2.down c hcl).1 hgl i1
     have e5:root S.2 (bD S.1 (root S.2 c) g).toNat=root S.2 s.2.2.2:=i2.trans (i3.trans r2)
     rw [e5] at j1 j2
     have p3:=l5 u c (root S.2 s.2.2.2) g p2 j1
     rw [←hww,j2] at p3
     exact p3
    ·rename_i hf2
     have n1:bD s.1 c g < 0:=by unfold image at hf2;split at hf2<;>omega
     have n2:bD s.1 s.2.2.2 g < 0:=by unfold image at he;split at he<;>omega
     have w1:=ok.wf.fl (c:=s.2.2.2) (g:=g) (z:=(c:Int)) (by rw [ok.wf.len];omega) hgl (by omega)
     have w2:=w1.fl (c:=c) (g:=g) (z:=(s.2.2.2:Int)) (by rw [cU,ok.wf.len];omega) hgl (by omega)
     have ea:∀a k,bD (dq s.1 s.2.2.2 g (c:Int)) a k=if s.2.2.2=a∧g=k then (c:Int) else bD s.1 a k:=fun a k=>dN (by rw [ok.wf.len];omega) (by rw [ok.wf.row _ (by rw [ok.wf.len];omega)];exact hgl)
     have ee:∀a k,bD (dq (dq s.1 s.2.2.2 g (c:Int)) c g (s.2.2.2:Int)) a k=if c=a∧g=k then (s.2.2.2:Int) else if s.2.2.2=a∧g=k then (c:Int) else bD s.1 a k:=fun a k=>by
      rw [dN (by rw [cU,ok.wf.len];omega) (by rw [gp,ok.wf.row c (by rw [ok.wf.len];omega)];exact hgl),ea]
     have x2:Ext ng s.1 s.2.1 (dq (dq s.1 s.2.2.2 g (c:Int)) c g (s.2.2.2:Int)) s.2.1:=⟨Nat.le_refl _,fun _ _ _ _ h=>h,fun a k _ _ hp=>by
      have e:=ee (root s.2.1 a) k
      rw [if_neg (by rintro ⟨e1,e2⟩;rw [←e1,←e2] at hp;omega),if_neg (by rintro ⟨e1,e2⟩;rw [←e1,←e2] at hp;omega)] at e
      rw [e];exact ⟨hp,rfl⟩⟩
     refine ⟨x1.trans x2 h ok.wf,fun _=> ?_⟩
     have p2:=x2.path ok.wf u c _ hcs (fun x hx=>hgd x hx) y1
     rw [cD hld] at p2
     have e6:=ee s.2.2.2 g
     have e7:bD (dq (dq s.1 s.2.2.2 g (c:Int)) c g (s.2.2.2:Int)) s.2.2.2 g=(c:Int):=by
      rw [e6]
      by_cases e:c=s.2.2.2
      ·rw [if_pos ⟨e,rfl⟩,←e]
      ·rw [if_neg (fun h=>e h.1),if_pos ⟨rfl,rfl⟩]
     have p3:=l5 u c s.2.2.2 g p2 (by rw [e7];omega)
     rw [←hww,e7,Int.toNat_natCast] at p3
     exact p3
end Go.Proofs.Ytekbhbcgoadciaa
namespace Go.Proofs.Ytekbhbcgoadciaa
abbrev pT (ng:Nat) (s s':dc):Prop:=Ext ng s.1 s.2.1 s'.1 s'.2.1
abbrev Cl (s:dc) (c:Nat) (w:List Int):Prop:=Bh s.1 s.2.1 c (w.map Int.toNat)
theorem Ext.cls {ng:Nat} {s s':dc} (h:pT ng s s') (hw:WF ng s.1 s.2.1) {c:Nat} {w:List Int} (hc:c < s.2.1.length) (hl:a9 ng w) (hcl:Cl s c w):Cl s' c w:=h.cl hw hc hl.nat hcl
theorem uu {ng n:Nat} {s:dc} {w:List Int} (h:BK ng n s) (hn:0 < n) (hw:a9 ng w):pT ng s (cW ng s w)∧((cW ng s w).2.2=false→Cl (cW ng s w) 0 w):=by
 have h0:0 < s.2.1.length:=Nat.lt_of_lt_of_le hn h.1.lo
 unfold cW
 split
 ·rename_i hf
  exact ⟨Ext.refl _ _ _,fun h=>by rw [hf] at h;cases h⟩
 ·exact oD h.1.wf h.2 h0 (by have:=h.1.wf.down 0 h0;omega) h.1.hi hw.nat
theorem uo {ng n c:Nat} {s:dc} {w:List Int} (h:BK ng n s) (hn:c < n) (hw:a9 ng w):pT ng s (cm ng c s w)∧(dX s c=true→(cm ng c s w).2.2=false→Cl (cm ng c s w) c w):=by
 have hc:=Nat.lt_of_lt_of_le hn h.1.lo
 unfold cm
 split
 ·rename_i hl
  have hl':aC s.2.1 c=(c:Int)∧s.2.2=false:=by unfold dX at hl;simpa using hl
  have:=oD h.1.wf h.2 hc hl'.1 h.1.hi hw.nat
  exact ⟨this.1,fun _=>this.2⟩
 ·rename_i hl
  exact ⟨Ext.refl _ _ _,fun h=>absurd h hl⟩
theorem xW {ng n c g:Nat} {s:dc} (h:BK ng n s) (hn:c < n) (hg:g < ng):pT ng s (cI ng c s g):=by
 have hc:=Nat.lt_of_lt_of_le hn h.1.lo
 unfold cI
 split
 ·rename_i hl
  have hl':aC s.2.1 c=(c:Int)∧s.2.2=false:=by unfold dX at hl;simpa using hl
  exact (qO h.1.wf hc hg hl'.1).1
 ·exact Ext.refl _ _ _
theorem pQ {ng c:Nat} {s:dc} (h:s.2.2=true) (w:List Int):cm ng c s w=s:=gn (by unfold dX;simp [h]) w
theorem rN {ng c:Nat} {s:dc} (h:s.2.2=true) (g:Nat):cI ng c s g=s:=ir (by unfold dX;simp [h]) g
theorem qf {α:Type} {f:dc→α→dc} (hf:∀s x,s.2.2=true→f s x=s):∀(l:List α) (s:dc),s.2.2=true→l.foldl f s=s
 | [],_,_=>rfl
 | x :: r,s,h=>by rw [List.foldl_cons,hf s x h];exact qf hf r s h
theorem mO {α:Type} {f:dc→α→dc} (hf:∀s x,s.2.2=true→f s x=s) {l:List α} {s:dc} (h:(l.foldl f s).2.2=false):s.2.2=false:=by
 cases e:s.2.2 with
 | false=>rfl
 | true=>rw [qf hf l s e,e] at h;cases h
theorem wg {ng n c:Nat} {R:List (List Int)} (hR:∀w∈R,a9 ng w) (hn:c < n):∀(l:List (List Int)) (s:dc),(∀w∈l,w∈R)→BK ng n s→(∀i,i < c→∀w∈R,Cl s i w)→
  BK ng n (l.foldl (cm ng c) s)∧pT ng s (l.foldl (cm ng c) s)∧((l.foldl (cm ng c) s).2.2=false→∀w∈l,Cl (l.foldl (cm ng c) s) c w)
 | [],s,_,h,_=>⟨h,Ext.refl _ _ _,fun _ w hw=>by simp at hw⟩
 | x :: r,s,hl,h,hc=>by
  have hx:=hR x (hl x (by simp))
  have b1:=nn (c:=c) h hn hx
  obtain ⟨x1,c1⟩:=uo (c:=c) h hn hx
  have hlen:=h.1.lo
  have hc1:∀i,i < c→∀w∈R,Cl (cm ng c s x) i w:=fun i hi w hw=>x1.cls h.1.wf (by omega) (hR w hw) (hc i hi w hw)
  obtain ⟨b2,x2,c2⟩:=wg hR hn r (cm ng c s x) (fun w hw=>hl w (by simp [hw])) b1 hc1
  rw [List.foldl_cons]
  refine ⟨b2,x1.trans x2 h.1.wf b1.1.wf,fun hf w hw=> ?_⟩
  rcases List.mem_cons.1 hw with rfl | hw
  ·refine x2.cls b1.1.wf (Nat.lt_of_lt_of_le hn b1.1.lo) hx ?_
   have hf1:=mO (f:=cm ng c) (fun s x h=>pQ h x) hf
   cases e:dX s c with
   | true=>exact c1 e hf1
   | false=>
    rw [gn e] at hf1 ⊢
    have hne:aC s.2.1 c≠(c:Int):=by unfold dX at e;rw [hf1] at e;simpa using e
    have hcs:c < s.2.1.length:=by omega
    have hd:=h.1.wf.down
    have hfix:=dJ hd c hcs
    have hlt:root s.2.1 c < c:=by
     rcases Nat.lt_or_ge (root s.2.1 c) c with h1 | h1
     ·exact h1
     ·exfalso
      have h2:root s.2.1 c=c:=by omega
      rw [h2] at hfix;exact hne hfix.1
    have:=hc (root s.2.1 c) hlt w (hl w (by simp))
    show ny s.1 s.2.1 c (w.map Int.toNat)=some (root s.2.1 c)
    rw [←lI (fX hd hcs)]
    have h3:ny s.1 s.2.1 (root s.2.1 c) (w.map Int.toNat)=some (root s.2.1 (root s.2.1 c)):=this
    rw [h3,fX hd hcs]
  ·exact c2 hf w hw
theorem tQ {ng n c:Nat} (hn:c < n):∀(l:List Nat) (s:dc),(∀g∈l,g < ng)→BK ng n s→BK ng n (l.foldl (cI ng c) s)∧pT ng s (l.foldl (cI ng c) s)
 | [],s,_,h=>⟨h,Ext.refl _ _ _⟩
 | g :: r,s,hg,h=>by
  have b1:=o6 (c:=c) h hn (hg g (by simp))
  have x1:=xW (c:=c) h hn (hg g (by simp))
  obtain ⟨b2,x2⟩:=tQ hn r (cI ng c s g) (fun x hx=>hg x (by simp [hx])) b1
  rw [List.foldl_cons]
  exact ⟨b2,x1.trans x2 h.1.wf b1.1.wf⟩
theorem x5 {ng n c:Nat} {R:List (List Int)} {s:dc} (hR:∀w∈R,a9 ng w) (hn:c < n) (h:BK ng n s) (hc:∀i,i < c→∀w∈R,Cl s i w):
  BK ng n (dm ng R c s)∧pT ng s (dm ng R c s)∧((dm ng R c s).2.2=false→∀i,i < c + 1→∀w∈R,Cl (dm ng R c s) i w):=by
 obtain ⟨b1,x1,c1⟩:=wg hR hn R s (fun _ h=>h) h hc
 obtain ⟨b2,x2⟩:=tQ hn (List.range ng) (R.foldl (cm ng c) s) (fun g hg=>List.mem_range.1 hg) b1
 have hlen:=h.1.lo
 have x:pT ng s (dm ng R c s):=x1.trans x2 h.1.wf b1.1.wf
 refine ⟨b2,x,fun hf i hi w hw=> ?_⟩
 by_cases e:i=c
 ·subst e
  exact x2.cls b1.1.wf (Nat.lt_of_lt_of_le hn b1.1.lo) (hR w hw) (c1 (mO (f:=cI ng i) (fun s x h=>rN h x) hf) w hw)
 ·exact x.cls h.1.wf (by omega) (hR w hw) (hc i (by omega) w hw)
theorem BK.full {ng n:Nat} {s:dc} (h:BK ng n s):BK ng s.2.1.length s:=⟨⟨h.1.wf,Nat.le_refl _,h.1.hi⟩,h.2⟩
theorem sE {ng:Nat} {R:List (List Int)} (hR:∀w∈R,a9 ng w):∀(f c:Nat) (s:dc),BK ng 1 s→2001≤f + c→c≤s.2.1.length→(∀i,i < c→∀w∈R,Cl s i w)→
  BK ng 1 (outer ng R f c s)∧pT ng s (outer ng R f c s)∧((outer ng R f c s).2.2=false→∀i,i < (outer ng R f c s).2.1.length→∀w∈R,Cl (outer ng R f c s) i w)
 | 0,c,s,h,hf,hc,hcl=>by have:=h.1.hi;omega
 | f + 1,c,s,h,hf,hc,hcl=>by
  unfold outer
  by_cases hcond:c < s.2.1.length∧s.2.2=false
  ·rw [if_pos hcond]
   obtain ⟨b1,x1,c1⟩:=x5 hR hcond.1 h.full hcl
   have hle:=h.1.lo
   have b1':BK ng 1 (dm ng R c s):=⟨b1.1.le hle,b1.2⟩
   cases e:(dm ng R c s).2.2 with
   | true=>
    rw [fI e]
    exact ⟨b1',x1,fun h=>by rw [e] at h;cases h⟩
   | false=>
    obtain ⟨b2,x2,c2⟩:=sE hR f (c + 1) (dm ng R c s) b1' (by omega) (by have:=x1.len;omega) (c1 e)
    exact ⟨b2,x1.trans x2 h.1.wf b1.1.wf,c2⟩
  ·rw [if_neg hcond]
   refine ⟨h,Ext.refl _ _ _,fun hnf i hi=>hcl i ?_⟩
   by_cases e:c < s.2.1.length
   ·exact absurd ⟨e,hnf⟩ hcond
   ·omega
theorem tL {ng:Nat} {W:List (List Int)} (hW:∀w∈W,a9 ng w):∀(l:List (List Int)) (s:dc),(∀w∈l,w∈W)→BK ng 1 s→
  BK ng 1 (l.foldl (cW ng) s)∧pT ng s (l.foldl (cW ng) s)∧((l.foldl (cW ng) s).2.2=false→∀w∈l,Cl (l.foldl (cW ng) s) 0 w)
 | [],s,_,h=>⟨h,Ext.refl _ _ _,fun _ w hw=>by simp at hw⟩
 | x :: r,s,hl,h=>by
  have hx:=hW x (hl x (by simp))
  have b1:=mZ h (by omega) hx
  obtain ⟨x1,c1⟩:=uu h (by omega) hx
  obtain ⟨b2,x2,c2⟩:=tL hW r (cW ng s x) (fun w hw=>hl w (by simp [hw])) b1
  rw [List.foldl_cons]
  refine ⟨b2,x1.trans x2 h.1.wf b1.1.wf,fun hf w hw=> ?_⟩
  rcases List.mem_cons.1 hw with rfl | hw
  ·exact x2.cls b1.1.wf (by have:=b1.1.lo;omega) hx (c1 (mO (f:=cW ng) (fun s x h=>gf h x) hf))
  ·exact c2 hf w hw
theorem m6 {ng:Nat} {R W:List (List Int)} (hR:∀w∈R,a9 ng w) (hW:∀w∈W,a9 ng w) (hnf:(cB ng R W).2.2=false):
  (∀i,i < (cB ng R W).2.1.length→∀w∈R,Cl (cB ng R W) i w)∧∀w∈W,Cl (cB ng R W) 0 w:=by
 obtain ⟨b1,x1,c1⟩:=tL hW W (c6 ng) (fun _ h=>h) (m5 ng)
 obtain ⟨b2,x2,c2⟩:=sE hR 2001 0 (W.foldl (cW ng) (c6 ng)) b1 (by omega) (by omega) (fun i hi=>by omega)
 refine ⟨c2 hnf,fun w hw=>x2.cls b1.1.wf (by have:=b1.1.lo;omega) (hW w hw) (c1 ?_ w hw)⟩
 cases e:(W.foldl (cW ng) (c6 ng)).2.2 with
 | false=>rfl
 | true=>
  have:(cB ng R W)=W.foldl (cW ng) (c6 ng):=fI e _ _
  rw [this,e] at hnf;cases hnf
end Go.Proofs.Ytekbhbcgoadciaa
namespace Go.Proofs.Ytekbhbcgoadciaa
def gj (ng:Nat) (im:List (List Int)) (less:List Int) (k:Nat):Nat:=(aC (bS ng im less).1 k).toNat
def kn (ng:Nat) (im:List (List Int)) (less:List Int):Nat:=(bS ng im less).1.length
section
variable {ng:Nat} {im:List (List Int)} {less:List Int}
theorem fT {k g:Nat} (hk:k < kn ng im less) (hg:g < ng):aC (bu (cF ng im less) g) k=la ng im less k g:=by
 unfold kn at hk
 simp [cF,bu,aC,la,hg,hk]
theorem fw (hF:Full ng im less) {k:Nat} (hk:k < kn ng im less):gj ng im less k < less.length∧aC less (gj ng im less k)=(gj ng im less k:Nat)∧aC (bS ng im less).2 (gj ng im less k)=(k:Int)∧aC (bS ng im less).1 k=(gj ng im less k:Nat):=by
 obtain ⟨h,_⟩:=iJ hF
 obtain ⟨d,h1,h2,h3,h4⟩:=h.live k hk
 unfold gj
 rw [h1,Int.toNat_natCast]
 exact ⟨h2,h3,h4,rfl⟩
theorem yF (hF:Full ng im less) {j k:Nat} (hj:j < kn ng im less) (hk:k < kn ng im less) (e:gj ng im less j=gj ng im less k):j=k:=by
 have h1:=(fw hF hj).2.2.1
 have h2:=(fw hF hk).2.2.1
 rw [e] at h1;omega
theorem gU (hF:Full ng im less) {k g:Nat} (hk:k < kn ng im less) (hg:g < ng):
  0≤la ng im less k g∧la ng im less k g < kn ng im less∧0≤bD im (gj ng im less k) g∧root less (bD im (gj ng im less k) g).toNat=gj ng im less (la ng im less k g).toNat:=by
 obtain ⟨k1,k2,k3,k4⟩:=fw hF hk
 obtain ⟨e,e1,e2,e3⟩:=hF.image k1 k2 hg
 have h0:=hF.full _ k1 k2 g hg
 have hent:=rW hF hk hg
 rw [k4,Int.toNat_natCast] at hent
 have ht:la ng im less k g=aC (bS ng im less).2 (image im less (gj ng im less k) g).toNat:=by unfold la;rw [k4,Int.toNat_natCast]
 rw [←ht] at hent
 refine ⟨hent.1,hent.2,h0, ?_⟩
 have hi:image im less (gj ng im less k) g=(root less (bD im (gj ng im less k) g).toNat:Nat):=by unfold image;rw [if_neg (by omega)]
 have hn:=jX hF e e2
 rw [e1] at ht hi
 rw [Int.toNat_natCast] at ht
 have:=hn (by rw [←ht];exact hent.1)
 have h5:gj ng im less (la ng im less k g).toNat=e:=by unfold gj;rw [ht,this,Int.toNat_natCast]
 rw [h5];omega
theorem qu (hF:Full ng im less):∀(w:List Int) (k:Nat),a9 ng w→k < kn ng im less→∃j:Nat,c8 (cF ng im less) k w=(j:Int)∧j < kn ng im less∧ny im less (gj ng im less k) (w.map Int.toNat)=some (gj ng im less j)
 | [],k,_,hk=>⟨k,rfl,hk,by simp only [List.map_nil,ny];rw [cD (fw hF hk).2.1]⟩
 | z :: r,k,hw,hk=>by
  have hz:=hw z (by simp)
  obtain ⟨k1,k2,_,_⟩:=fw hF hk
  obtain ⟨t1,t2,t3,t4⟩:=gU hF hk (g:=z.toNat) (by omega)
  obtain ⟨j,j1,j2,j3⟩:=qu hF r (la ng im less k z.toNat).toNat (fun x hx=>hw x (by simp [hx])) (by omega)
  refine ⟨j, ?_,j2, ?_⟩
  ·show c8 (cF ng im less) (aC (bu (cF ng im less) z.toNat) (k:Int).toNat) r=j
   rw [Int.toNat_natCast,fT hk (by omega),←j1,Int.toNat_of_nonneg t1]
  ·simp only [List.map_cons,ny]
   rw [cD k2,if_pos t3]
   have hent:=hF.wf.bD (gj ng im less k) z.toNat (by rw [hF.wf.len];exact k1) (by omega)
   rw [←lI (fX hF.wf.down (by omega)),t4]
   exact j3
theorem nc (hF:Full ng im less) {w:List Int} {k:Nat} (hw:a9 ng w) (hk:k < kn ng im less) (hc:Bh im less (gj ng im less k) (w.map Int.toNat)):c8 (cF ng im less) k w=(k:Int):=by
 obtain ⟨j,j1,j2,j3⟩:=qu hF w k hw hk
 unfold Bh at hc
 rw [cD (fw hF hk).2.1,j3] at hc
 rw [j1,yF hF j2 hk (Option.some.inj hc)]
theorem lP:∀(f i:Nat) (s:iE),0 < s.1.length→aC s.1 0=0→0 < (cM ng im less f i s).1.length∧aC (cM ng im less f i s).1 0=0
 | 0,_,s,h,h0=>⟨h,h0⟩
 | f + 1,i,s,h,h0=>by
  unfold cM
  split
  ·have key:∀(l:List Nat) (s:iE),0 < s.1.length→aC s.1 0=0→0 < (l.foldl (cQ im less i) s).1.length∧aC (l.foldl (cQ im less i) s).1 0=0:=by
    intro l
    induction l with
    | nil=>intro s h h0;exact ⟨h,h0⟩
    | cons x r ih=>
     intro s h h0
     rw [List.foldl_cons]
     refine ih _ ?_ ?_
     ·unfold cQ visit;split
      ·simp
      ·exact h
     ·unfold cQ visit;split
      ·dsimp only;rw [cx h];exact h0
      ·exact h0
   obtain ⟨h1,h2⟩:=key (List.range ng) s h h0
   exact lP f (i + 1) _ h1 h2
  ·exact ⟨h,h0⟩
theorem iZ:0 < kn ng im less∧gj ng im less 0=0:=by
 obtain ⟨h1,h2⟩:=lP (ng:=ng) (im:=im) (less:=less) (less.length + 1) 0 (dv less.length) (by simp [dv]) (by simp [dv,aC])
 exact ⟨h1,by unfold gj;show (aC (bS ng im less).1 0).toNat=0;unfold bS;rw [h2];rfl⟩
theorem zw {X:Type} {f:Nat→X→X} {h:Nat→X} (hF:Full ng im less) (H:p6 ng f im less h) {k g:Nat} (hk:k < kn ng im less) (hg:g < ng):
  h (gj ng im less (la ng im less k g).toNat)=f g (h (gj ng im less k)):=by
 obtain ⟨t1,t2,t3,t4⟩:=gU hF hk hg
 obtain ⟨k1,k2,_,_⟩:=fw hF hk
 have hent:=hF.wf.bD (gj ng im less k) g (by rw [hF.wf.len];exact k1) hg
 rw [←t4,H.root hF.wf.down _ (by omega),H.entv _ g k1 hg t3]
end
section
variable {ng:Nat} {R W:List (List Int)}
abbrev jq (ng:Nat) (R W:List (List Int)):List (List Int):=cF ng (cB ng R W).1 (cB ng R W).2.1
abbrev iA (ng:Nat) (R W:List (List Int)):Nat:=kn ng (cB ng R W).1 (cB ng R W).2.1
theorem sI (hR:∀w∈R,a9 ng w) (hW:∀w∈W,a9 ng w) (hnf:(cB ng R W).2.2=false) {w:List Int} (hw:w∈R) {k:Nat} (hk:k < iA ng R W):c8 (jq ng R W) k w=(k:Int):=by
 have hF:=ja hR hW hnf
 exact nc hF (hR w hw) hk ((m6 hR hW hnf).1 _ (fw hF hk).1 w hw)
theorem x7 (hR:∀w∈R,a9 ng w) (hW:∀w∈W,a9 ng w) (hnf:(cB ng R W).2.2=false) {w:List Int} (hw:w∈W):c8 (jq ng R W) (0:Nat) w=((0:Nat):Int):=by
 have hF:=ja hR hW hnf
 have hz:=iZ (ng:=ng) (im:=(cB ng R W).1) (less:=(cB ng R W).2.1)
 have:=(m6 hR hW hnf).2 w hw
 exact nc hF (hW w hw) hz.1 (by rw [hz.2];exact this)
theorem vT {X:Type} {f:Nat→X→X} {x0:X} (hinv:∀g x,g < ng→f g (f g x)=x) (hR:∀w∈R,a9 ng w∧∀x,cC f x (w.map Int.toNat)=x) (hW:∀w∈W,a9 ng w∧cC f x0 (w.map Int.toNat)=x0) (hnf:(cB ng R W).2.2=false):
  ∃φ:Nat→X,φ 0=x0∧∀(w:List Int) (k:Nat),a9 ng w→k < iA ng R W→φ (c8 (jq ng R W) k w).toNat=cC f (φ k) (w.map Int.toNat):=by
 have hF:=ja (fun w hw=>(hR w hw).1) (fun w hw=>(hW w hw).1) hnf
 obtain ⟨_,h,H,h0⟩:=zY hinv hR hW
 refine ⟨fun k=>h (gj ng (cB ng R W).1 (cB ng R W).2.1 k),by dsimp only;rw [iZ.2];exact h0,fun w=> ?_⟩
 induction w with
 | nil=>intro k _ _;simp [c8,cC]
 | cons z r ih=>
  intro k hw hk
  have hz:=hw z (by simp)
  obtain ⟨t1,t2,_,_⟩:=gU hF hk (g:=z.toNat) (by omega)
  have e:c8 (jq ng R W) k (z :: r)=c8 (jq ng R W) ((la ng (cB ng R W).1 (cB ng R W).2.1 k z.toNat).toNat:Nat) r:=by
   show c8 (jq ng R W) (aC (bu (jq ng R W) z.toNat) (k:Int).toNat) r=_
   rw [Int.toNat_natCast,fT hk (by omega),Int.toNat_of_nonneg t1]
  rw [e,ih _ (fun x hx=>hw x (by simp [hx])) (by unfold iA;omega)]
  dsimp only
  rw [zw hF H hk (by omega)]
  simp [cC]
end
end Go.Proofs.Ytekbhbcgoadciaa
namespace Go.Proofs.Ytekbhbcgoadciaa
def xA (ng:Nat) (im:List (List Int)) (less:List Int) (s:iE):Prop:=∀k,1≤k→k < s.1.length→∃i g,i < k∧g < ng∧image im less (aC s.1 i).toNat g=aC s.1 k
theorem tq {ng:Nat} {im:List (List Int)} {less:List Int} (hF:Full ng im less) {i:Nat} {s:iE} (h:nI less.length less s) (hb:xA ng im less s) (hi:i < s.1.length):∀m,m≤ng→xA ng im less ((List.range m).foldl (cQ im less i) s)
 | 0,_=>hb
 | m + 1,hm=>by
  have ih:=tq hF h hb hi m (by omega)
  obtain ⟨h1,h2,_⟩:=eN hF h hi m (by omega)
  rw [List.range_succ,List.foldl_append]
  generalize (List.range m).foldl (cQ im less i) s=t at *
  have hit:i < t.1.length:=Nat.lt_of_lt_of_le hi h2.len
  obtain ⟨d,k1,k2,k3,_⟩:=h1.live i hit
  obtain ⟨e,e1,e2,_⟩:=hF.image k2 k3 (g:=m) (by omega)
  show xA ng im less (cQ im less i t m)
  unfold cQ
  rw [k1,Int.toNat_natCast,e1,Int.toNat_natCast]
  unfold visit
  split
  ·intro k hk1 hk2
   dsimp only at hk2 ⊢
   by_cases ek:k < t.1.length
   ·obtain ⟨j,g,j1,j2,j3⟩:=ih k hk1 ek
    exact ⟨j,g,j1,j2,by rw [cx (by omega),cx ek];exact j3⟩
   ·obtain rfl:k=t.1.length:=by simp at hk2;omega
    exact ⟨i,m,hit,by omega,by rw [cx hit,dH,k1,Int.toNat_natCast,e1]⟩
  ·exact ih
theorem qA {ng:Nat} {im:List (List Int)} {less:List Int} (hF:Full ng im less):∀(f i:Nat) (s:iE),nI less.length less s→xA ng im less s→xA ng im less (cM ng im less f i s)
 | 0,i,s,_,hb=>hb
 | f + 1,i,s,h,hb=>by
  unfold cM
  split
  ·rename_i hlt
   exact qA hF f (i + 1) _ (eN hF h hlt ng (Nat.le_refl _)).1 (tq hF h hb hlt ng (Nat.le_refl _))
  ·exact hb
def vX (T:List (List Int)) (m:Nat):Prop:=∀g,g < T.length→∀x,x < m→aC (bu T g) (aC (bu T g) x).toNat=(x:Int)
end Go.Proofs.Ytekbhbcgoadciaa
namespace Go.Proofs.Ytekbhbcgoadciaa
def jc (T:List (List Int)) (m:Nat) (g x:Nat):Nat:=if x < m then (aC (bu T g) x).toNat else x
section
variable {T:List (List Int)} {m:Nat}
theorem sU (hT:nh T m) (hI:vX T m) (g x:Nat) (hg:g < T.length):jc T m g (jc T m g x)=x:=by
 unfold jc
 by_cases h:x < m
 ·rw [if_pos h]
  have h1:=hT.within g hg x h
  have h2:=hI g hg x h
  rw [if_pos (by omega),h2];rfl
 ·rw [if_neg h,if_neg h]
theorem pe:∀(w:List Nat) (x:Nat),¬x < m→cC (jc T m) x w=x
 | [],_,_=>rfl
 | g :: r,x,h=>by
  have e:jc T m g x=x:=if_neg h
  show cC (jc T m) (jc T m g x) r=x
  rw [e];exact pe r x h
theorem ik (hT:nh T m):∀(w:List Int) (x:Nat),a9 T.length w→x < m→((cC (jc T m) x (w.map Int.toNat):Nat):Int)=c8 T x w
 | [],_,_,_=>rfl
 | z :: r,x,hw,h=>by
  have hz:=hw z (by simp)
  have h1:=hT.within z.toNat (by omega) x h
  have e:jc T m z.toNat x=(aC (bu T z.toNat) x).toNat:=if_pos h
  have ih:=ik hT r (aC (bu T z.toNat) x).toNat (fun y hy=>hw y (by simp [hy])) (by omega)
  show ((cC (jc T m) (jc T m z.toNat x) (r.map Int.toNat):Nat):Int)=c8 T (aC (bu T z.toNat) (x:Int).toNat) r
  rw [e,ih,Int.toNat_of_nonneg h1.1,Int.toNat_natCast]
theorem j4 (hT:nh T m) {w:List Int} {x:Nat} (hw:a9 T.length w) (hx:x < m):∃y:Nat,c8 T x w=(y:Int)∧y < m:=by
 have:=hT.lead (c:=(x:Int)) ⟨by omega,by omega⟩ hw
 exact ⟨(c8 T x w).toNat,by omega,by omega⟩
theorem j8 (hT:nh T m) (hI:vX T m):∀(w:List Int) (x y:Nat),a9 T.length w→x < m→c8 T x w=(y:Int)→c8 T y w.reverse=(x:Int)
 | [],x,y,_,_,h=>by
  have:(x:Int)=y:=h
  show (y:Int)=x
  omega
 | z :: r,x,y,hw,hx,h=>by
  have hz:=hw z (by simp)
  have h1:=hT.within z.toNat (by omega) x hx
  have h2:=hI z.toNat (by omega) x hx
  have h:c8 T (aC (bu T z.toNat) (x:Int).toNat) r=(y:Int):=h
  rw [Int.toNat_natCast,←Int.toNat_of_nonneg h1.1] at h
  have ih:=j8 hT hI r (aC (bu T z.toNat) x).toNat y (fun a ha=>hw a (by simp [ha])) (by omega) h
  rw [List.reverse_cons,nK,ih,Int.toNat_natCast]
  exact h2
end
section
variable {ng:Nat} {im:List (List Int)} {less:List Int}
theorem xJ (hF:Full ng im less):nh (cF ng im less) (kn ng im less):=by
 refine ⟨fun k hk=> ?_,fun k hk x hx=> ?_⟩
 ·simp [cF] at hk
  simp [cF,bu,hk,kn]
 ·simp [cF] at hk
  rw [fT hx hk]
  exact ⟨(gU hF hx hk).1,(gU hF hx hk).2.1⟩
theorem wv:(cF ng im less).length=ng:=by simp [cF]
theorem wF (hF:Full ng im less) (hB:eJ ng im less []):vX (cF ng im less) (kn ng im less):=fun g hg x hx=>by
 rw [wv] at hg
 obtain ⟨t1,t2,_⟩:=gU hF hx hg
 rw [fT hx hg,fT (by omega) hg]
 exact wD hF hB hx hg
theorem mD (hF:Full ng im less):∀k,k < kn ng im less→∃u,a9 ng u∧c8 (cF ng im less) (0:Nat) u=(k:Int):=by
 have hp:xA ng im less (bS ng im less):=qA hF _ _ _ (gh hF) fun k h1 h2=>by simp [dv] at h2;omega
 intro k
 induction k using Nat.strongRecOn with
 | _ k ih=>
  intro hk
  rcases Nat.eq_zero_or_pos k with rfl | h0
  ·exact ⟨[],fun _ h=>(by simp at h),rfl⟩
  ·obtain ⟨i,g,i1,i2,i3⟩:=hp k h0 hk
   obtain ⟨u,u1,u2⟩:=ih i i1 (by omega)
   obtain ⟨hT,_⟩:=iJ hF
   obtain ⟨d,d1,_,_,d4⟩:=hT.live k hk
   refine ⟨u ++ [(g:Int)],fun z hz=> ?_, ?_⟩
   ·rcases List.mem_append.1 hz with hz | hz
    ·exact u1 z hz
    ·simp at hz;omega
   ·rw [nK,u2,Int.toNat_natCast,Int.toNat_natCast,fT (by omega) i2]
    unfold la
    rw [i3,d1,Int.toNat_natCast,d4]
end
section
variable {ng:Nat} {R W R' W':List (List Int)}
structure pP (ng:Nat) (R W:List (List Int)):Prop where
 r:∀w∈R,a9 ng w
 w:∀w∈W,a9 ng w
 nf:(cB ng R W).2.2=false
theorem pP.full (h:pP ng R W):Full ng (cB ng R W).1 (cB ng R W).2.1:=ja h.r h.w h.nf
theorem pP.leads (h:pP ng R W):nh (jq ng R W) (iA ng R W):=xJ h.full
theorem pP.sB (h:pP ng R W):vX (jq ng R W) (iA ng R W):=wF h.full (x8 h.r h.w).2
theorem jt:(jq ng R W).length=ng:=wv
theorem pP.map (h:pP ng R W) (k:pP ng R' W') {j:Nat} (hj:j < iA ng R' W') (hR:∀w∈R,∀x,x < iA ng R' W'→c8 (jq ng R' W') x w=(x:Int)) (hW:∀w∈W,c8 (jq ng R' W') j w=(j:Int)):
  ∃φ:Nat→Nat,φ 0=j∧(∀x,x < iA ng R W→φ x < iA ng R' W')∧∀(w:List Int) (x:Nat),a9 ng w→x < iA ng R W→((φ (c8 (jq ng R W) x w).toNat:Nat):Int)=c8 (jq ng R' W') (φ x:Nat) w:=by
 have hT:=k.leads
 have hI:=k.sB
 have hlen:(jq ng R' W').length=ng:=jt
 obtain ⟨φ,h0,h1⟩:=vT (f:=jc (jq ng R' W') (iA ng R' W')) (x0:=j) (R:=R) (W:=W) (ng:=ng) (fun g x hg=>sU hT hI g x (by rw [hlen];exact hg))
  (fun w hw=>⟨h.r w hw,fun x=>by
   by_cases hx:x < iA ng R' W'
   ·have:=ik hT w x (by rw [hlen];exact h.r w hw) hx
    rw [hR w hw x hx] at this;omega
   ·exact pe _ _ hx⟩)
  (fun w hw=>⟨h.w w hw,by
   have:=ik hT w j (by rw [hlen];exact h.w w hw) hj
   rw [hW w hw] at this;omega⟩) h.nf
 have hlt:∀x,x < iA ng R W→φ x < iA ng R' W':=fun x hx=>by
  obtain ⟨u,u1,u2⟩:=mD h.full x hx
  have e:=h1 u 0 u1 (by omega)
  have u2:c8 (jq ng R W) (0:Nat) u=(x:Int):=u2
  rw [u2,Int.toNat_natCast,h0] at e
  have e2:=ik hT u j (by rw [hlen];exact u1) hj
  obtain ⟨y,y1,y2⟩:=j4 hT (w:=u) (by rw [hlen];exact u1) hj
  rw [e];omega
 exact ⟨φ,h0,hlt,fun w x hw hx=>by rw [h1 w x hw hx];exact ik hT w (φ x) (by rw [hlen];exact hw) (hlt x hx)⟩
theorem pP.regular (h:pP ng R []) {w:List Int} (hw:a9 ng w) (h0:c8 (jq ng R []) (0:Nat) w=((0:Nat):Int)) {k:Nat} (hk:k < iA ng R []):c8 (jq ng R []) k w=(k:Int):=by
 obtain ⟨φ,p0,_,p1⟩:=h.map h hk (fun w hw x hx=>sI h.r h.w h.nf hw hx) (fun w hw=>by simp at hw)
 have:=p1 w 0 hw (by omega)
 rw [h0,Int.toNat_natCast,p0] at this
 omega
end
end Go.Proofs.Ytekbhbcgoadciaa
namespace Go.Proofs.Ytekbhbcgoadciaa
theorem qD:∀(l1 l2:List Nat),l1.Nodup→(∀x∈l1,x∈l2)→l1.length≤l2.length
 | [],_,_,_=>by simp
 | x :: r,l2,h,hs=>by
  rw [List.nodup_cons] at h
  have hx:=hs x (by simp)
  have:=qD r (l2.erase x) h.2 fun y hy=>(List.mem_erase_of_ne (fun e:y=x=>h.1 (by rw [←e];exact hy))).2 (hs y (by simp [hy]))
  rw [List.length_erase_of_mem hx] at this
  have:=List.length_pos_of_mem hx
  simp;omega
theorem qt {σ:Nat→Nat} :∀ {l:List Nat},l.Nodup→(∀x∈l,∀y∈l,σ x=σ y→x=y)→(l.map σ).Nodup
 | [],_,_=>by simp
 | a :: r,h,hi=>by
  rw [List.nodup_cons] at h
  rw [List.map_cons,List.nodup_cons]
  refine ⟨fun hm=> ?_,qt h.2 fun x hx y hy=>hi x (by simp [hx]) y (by simp [hy])⟩
  obtain ⟨y,hy,e⟩:=List.mem_map.1 hm
  exact h.1 (hi y (by simp [hy]) a (by simp) e ▸ hy)
def pK (φ:Nat→Nat) (n j:Nat):List Nat:=(List.range n).filter fun x=>φ x == j
theorem l8 {φ:Nat→Nat} {n j x:Nat} :x∈pK φ n j↔x < n∧φ x=j:=by simp [pK]
theorem xL (φ:Nat→Nat) (n j:Nat):(pK φ n j).Nodup:=List.nodup_range.filter _
theorem zG {φ σ:Nat→Nat} {n j k:Nat} (hs:∀x,x < n→φ x=j→σ x < n∧φ (σ x)=k) (hi:∀x y,x < n→y < n→σ x=σ y→x=y):(pK φ n j).length≤(pK φ n k).length:=by
 have h:=qD ((pK φ n j).map σ) (pK φ n k) (qt (xL φ n j) fun x hx y hy=>hi x y (l8.1 hx).1 (l8.1 hy).1) fun z hz=>by
  obtain ⟨x,hx,rfl⟩:=List.mem_map.1 hz
  exact l8.2 (hs x (l8.1 hx).1 (l8.1 hx).2)
 simpa using h
def kL (f:Nat→Nat):Nat→Nat
 | 0=>0
 | m + 1=>kL f m + f m
theorem sC (f g:Nat→Nat):∀m,kL (fun j=>f j + g j) m=kL f m + kL g m
 | 0=>rfl
 | m + 1=>by simp only [kL,sC f g m];omega
theorem mQ {f:Nat→Nat} :∀ {m:Nat},(∀j,j < m→f j=0)→kL f m=0
 | 0,_=>rfl
 | m + 1,h=>by simp only [kL];rw [mQ fun j hj=>h j (by omega),h m (by omega)]
theorem sT {c:Nat} :∀ {m:Nat},c < m→kL (fun j=>if c=j then 1 else 0) m=1
 | m + 1,h=>by
  simp only [kL]
  by_cases e:c=m
  ·subst e;rw [if_pos rfl,mQ fun j hj=>if_neg (by omega)]
  ·rw [if_neg e,sT (by omega)]
theorem k8 {f:Nat→Nat} {c:Nat} :∀ {m:Nat},(∀j,j < m→f j=c)→kL f m=m * c
 | 0,_=>by simp [kL]
 | m + 1,h=>by
  simp only [kL]
  rw [k8 fun j hj=>h j (by omega),h m (by omega),Nat.add_mul];omega
theorem oV {f g:Nat→Nat} :∀ {m:Nat},(∀j,j < m→f j=g j)→kL f m=kL g m
 | 0,_=>rfl
 | m + 1,h=>by simp only [kL];rw [oV fun j hj=>h j (by omega),h m (by omega)]
theorem rz {φ:Nat→Nat} {m:Nat} :∀(n:Nat),(∀x,x < n→φ x < m)→kL (fun j=>(pK φ n j).length) m=n
 | 0,_=>mQ fun j _=>by simp [pK]
 | n + 1,h=>by
  have e:∀j,(pK φ (n + 1) j).length=(pK φ n j).length + if φ n=j then 1 else 0:=fun j=>by
   unfold pK
   rw [List.range_succ,List.filter_append,List.length_append]
   by_cases e:φ n=j<;>simp [e]
  rw [oV fun j _=>e j,sC,rz n fun x hx=>h x (by omega),sT (h n (by omega))]
section
variable {ng:Nat} {R W R' W':List (List Int)}
theorem pP.divides (h:pP ng R W) (k:pP ng R' W') (hR:∀w∈R,∀x,x < iA ng R' W'→c8 (jq ng R' W') x w=(x:Int)) (hW:∀w∈W,c8 (jq ng R' W') (0:Nat) w=((0:Nat):Int)):iA ng R' W' ∣ iA ng R W:=by
 have hz:0 < iA ng R' W':=iZ.1
 have hz':0 < iA ng R W:=iZ.1
 obtain ⟨φ,p0,p1,p2⟩:=h.map k hz hR hW
 have hT:=h.leads
 have hI:=h.sB
 have hl:(jq ng R W).length=ng:=jt
 have hl':(jq ng R' W').length=ng:=jt
 have act:∀(u:List Int) (i j:Nat),a9 ng u→i < iA ng R' W'→c8 (jq ng R' W') i u=(j:Int)→(pK φ (iA ng R W) i).length≤(pK φ (iA ng R W) j).length:=fun u i j hu hi hj=>by
  refine zG (σ:=fun x=>(c8 (jq ng R W) x u).toNat) (fun x hx e=> ?_) (fun x y hx hy e=> ?_)
  ·obtain ⟨y,y1,y2⟩:=j4 hT (w:=u) (by rw [hl];exact hu) hx
   have:=p2 u x hu hx
   rw [e,hj,y1,Int.toNat_natCast] at this
   rw [y1,Int.toNat_natCast]
   exact ⟨y2,by omega⟩
  ·obtain ⟨a,a1,a2⟩:=j4 hT (w:=u) (by rw [hl];exact hu) hx
   obtain ⟨b,b1,b2⟩:=j4 hT (w:=u) (by rw [hl];exact hu) hy
   rw [a1,b1,Int.toNat_natCast,Int.toNat_natCast] at e
   subst e
   have r1:=j8 hT hI u x a (by rw [hl];exact hu) hx a1
   have r2:=j8 hT hI u y a (by rw [hl];exact hu) hy b1
   omega
 have all:∀j,j < iA ng R' W'→(pK φ (iA ng R W) j).length=(pK φ (iA ng R W) 0).length:=fun j hj=>by
  obtain ⟨u,u1,u2⟩:=mD k.full j hj
  have u2:c8 (jq ng R' W') (0:Nat) u=(j:Int):=u2
  have r:=j8 k.leads k.sB u 0 j (by rw [hl'];exact u1) hz u2
  exact Nat.le_antisymm (act u.reverse j 0 (fun z hz=>u1 z (by simpa using hz)) hj r) (act u 0 j u1 hz u2)
 have hs:=rz (φ:=φ) (m:=iA ng R' W') (iA ng R W) p1
 rw [k8 all] at hs
 exact ⟨_,hs.symm⟩
end
end Go.Proofs.Ytekbhbcgoadciaa
