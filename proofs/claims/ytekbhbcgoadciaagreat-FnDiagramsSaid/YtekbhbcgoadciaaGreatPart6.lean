/- The program's coset enumeration: define. -/
import Derived.Test.YtekbhbcgoadciaaGreatPart5
import Derived.Test.YtekbhbcgoadciaaGreatPart4
import Derived.Maps.OwnSet
import Derived.Maps.Views
set_option maxRecDepth 100000
set_option maxHeartbeats 6400000
namespace Go.Proofs.YtekbhbcgoadciaaGreat
open Go.RowKit
theorem oS (im:List (List Int)) (less:List Int) (m n c g:Nat) (b:Bool) (hm:im.length=m) (h:2000≤im.length):
  FC Tryz.prog 126 [(1010,om m n b),(1000,cT im),(1001,bG less)] [o1 (.ptr 1010 0),vv (I6 c),vv (I6 g)] [(1010,om m n true),(1000,cT im),(1001,bG less)] (vv (I6 c)) [(0,o1 (.ptr 1010 0))]:=by
 have hS:=sP 1000 m
 refine bj (nt:=53) Tryz.func126 rfl rfl (by simp) fun w0 ω0=> ?_
 (refine ak (ah (aa rfl (ai rfl rfl) (ar (an (ak (ah (aa rfl (aj rfl rfl) (aa rfl (bC rfl rfl rfl) ?_))))))));apply aa rfl;(exact aI (d:=0) rfl rfl rfl ab);apply aa rfl;exact aZ rfl ab rfl rfl rfl rfl;apply aa rfl;(apply au 125;exact aw hS ab rfl rfl ⟨rfl,ag⟩ trivial rfl rfl);refine aa rfl (ai rfl rfl) (ar (an (ak (ak (ah (aa rfl (aj rfl rfl) (aa rfl (aG rfl rfl rfl rfl) (ar (an ?_))))))))))
 refine ax rfl (fun e=> ?_) (fun e=> ?_)
 ·(refine ak (ah (aa rfl (aj rfl rfl) (aa rfl (bC rfl rfl rfl) ?_)));apply aa rfl;(exact aI (d:=2) rfl rfl rfl ab);apply aa rfl;exact fz rfl rfl rfl rfl rfl rfl ab rfl;refine ar (an (ak (ah (aa rfl (aj rfl rfl) (aa rfl (ai rfl rfl) (ar (an (aS (aO ?_))))))))))
  exact bu (.inl rfl) rfl (.tmp rfl) ⟨rfl,rfl,rfl,ag⟩ ⟨rfl,ag⟩
 ·exfalso;simp at e;omega
theorem sO (ng:Nat) (im:List (List Int)) (less:List Int) (m n c g:Nat) (b:Bool) (hm:im.length=m) (hn:less.length=n) (h:im.length < 2000) (hw:WF ng im less) (hc:c < less.length) (hg:g < ng) (hng:ng≤1000):
  FC Tryz.prog 126 [(1010,om m n b),(1000,cT im),(1001,bG less)] [o1 (.ptr 1010 0),vv (I6 c),vv (I6 g)] [(1010,om (m + 1) (n + 1) b),(1000,cT (nD ng im less.length c g)),(1001,bG (less ++ [(n:Int)]))] (vv (I6 n)) [(0,o1 (.ptr 1010 0))]:=by
 have hlen:=hw.len
 obtain rfl:m=n:=by omega
 subst hn
 have hS:=sP 1000 less.length
 have h0:=hw.row 0 ae
 have hrow0:(bV im)[0]? =some (aL (bn im 0)):=cf ae
 have hR:FC Tryz.prog 118 [(24,⟨false,2,1, .bR (aL [-1])⟩)] [o1 (.sl 24 0 1),vv (I6 ng)] [(32,⟨true,2,1, .bR (aL (List.replicate ng (-1)))⟩)] (o1 (.sl 32 0 ng)) []:=iz 24 32 ng (-1) ae ae
 have hA:=hw.app
 have hlA:(im ++ [List.replicate ng (-1)]).length=less.length + 1:=by simp;omega
 have hL:=wR (im ++ [List.replicate ng (-1)]) (less ++ [(less.length:Int)]) (less.length + 1) (less.length + 1) c less.length g b hlA ae (by rw [hA.row c ae];exact hg) ae (by rw [hA.row less.length ae];exact hg)
 refine bj (nt:=53) Tryz.func126 rfl rfl (by simp) fun w0 ω0=> ?_
 (refine ak (ah (aa rfl (ai rfl rfl) (ar (an (ak (ah (aa rfl (aj rfl rfl) (aa rfl (bC rfl rfl rfl) ?_))))))));apply aa rfl;(exact aI (d:=0) rfl rfl rfl ab);apply aa rfl;exact aZ rfl ab rfl rfl rfl rfl;apply aa rfl;(apply au 125;exact aw hS ab rfl rfl ⟨rfl,ag⟩ trivial rfl rfl);refine aa rfl (ai rfl rfl) (ar (an (ak (ak (ah (aa rfl (aj rfl rfl) (aa rfl (aG rfl rfl rfl rfl) (ar (an ?_))))))))))
 refine ax rfl (fun e=> ?_) (fun e=> ?_)
 ·exfalso;simp at e;omega
 ·(refine aE ?_;refine an ?_;refine ak ?_)
  refine cW (St.of [(0,o1 (.ptr 1010 0)),(1,vv (I6 c)),(2,vv (I6 g)),(7,vv (I6 less.length))] [(1010,⟨true,124,3, .flat [.sl 1000 0 (less.length + 1), .sl 1001 0 less.length, .val (.bool b)]⟩),(1000,cT (im ++ [List.replicate ng (-1)])),(1001,bG less)] [(0,o1 (.ptr 1010 0))]) ?_ ?_
  ·apply ny 15 [] 0 [[], [], [1], [1,2], [1,2,3], [], [], [6], [6,7], [6,7,8], [6,7,8,9], [6,7,8,9,10], [6,7,8,9,10,11], [5,6,7,8,9,10,11,12], [5,6,7,8,9,10,11,12,13], [1,2,3,4,5,6,7,8,9,10,11,12,13,14], [0,1,2,3,4,5,6,7,8,9,10,11,12,13,14,15], [0,1,2,3,4,5,6,7,8,9,10,11,12,13,14,15,16], [0,1,2,3,4,5,6,7,8,9,10,11,12,13,14,15,16,17]] [19,20,21,22,23,24,25,26,27,28,29,30,31,32,33] [24,32,33] (by kernel_rfl) (by kernel_rfl) (by kernel_rfl)
   ·(apply aK rfl;(intro S1 hS;exact aj rfl (hS.op rfl));apply aK rfl;(intro S1 hS;exact aj rfl (hS.op rfl));apply aK rfl;(intro S1 hS;exact bC rfl (hS.op rfl) (hS.ch _ _ rfl));apply aK rfl;(intro S1 hS;exact aI (d:=0) rfl (hS.op rfl) (hS.ch _ _ rfl) ab);apply aK rfl;(intro S1 hS;exact aZ rfl ab (hS.op rfl) (hS.ch _ _ rfl) rfl rfl);apply gU rfl;(intro S1 hS;exact bW (E:=2) rfl ab (hS.op rfl));apply aK rfl;(intro S1 hS;exact aj rfl (hS.op rfl));apply aK rfl;(intro S1 hS;exact bC rfl (hS.op rfl) (hS.ch _ _ rfl));apply aK rfl;(intro S1 hS;exact aI (d:=0) rfl (hS.op rfl) (hS.ch _ _ rfl) ab);apply aK rfl;(intro S1 hS;exact aZ rfl ab (hS.op rfl) (hS.ch _ _ rfl) rfl rfl);apply aK rfl;(intro S1 hS;exact aR rfl (hS.op rfl) (hS.op rfl) (hS.ch _ _ rfl) rfl ab a9 aJ a8);apply aK rfl;(intro S1 hS;exact bF rfl ab (hS.op rfl) (hS.ch _ _ rfl) rfl aQ c8);apply aK rfl;(intro S1 hS;exact bw rfl (hS.op rfl) rfl ab);(apply gU rfl;(focus (intro S1 hS1;apply au 118;exact bg hR ab rfl (eu hS1 rfl) ⟨rfl,congrArg (fun z:Nat=>vv (I6 z)) h0,ag⟩ (dq hS1 ⟨⟨_,rfl, .inr rfl⟩,ag⟩) rfl rfl rfl)));apply gU rfl;(intro S1 hS;exact lW (E:=24) rfl ab (hS.op rfl) rfl rfl);exact ft.nil)
   ·rfl
   ·((apply aF 15 rfl ab rfl rfl;(exact kE rfl ab rfl rfl (by first | rfl | assumption | (simp;done)) rfl rfl rfl (by first | rfl | assumption | (simp;done)) rfl ae));(apply aF 16 rfl ab rfl rfl;exact bC rfl rfl rfl);(apply aF 17 rfl ab rfl rfl;(exact aI (d:=0) rfl rfl rfl ab));(apply aF 18 rfl ab rfl rfl;exact fz rfl rfl rfl rfl rfl rfl ab rfl);(refine bh ab ?_;exact aV (Wk.of ⟨rfl,rfl,rfl,rfl,ag⟩ ⟨rfl,rfl,rfl,ag⟩ ⟨rfl,ag⟩)))
   ·((apply ct 0 15 rfl ab rfl rfl rfl rfl;exact aj rfl rfl;(exact kE rfl ab rfl rfl (by first | rfl | assumption | (simp;done)) rfl rfl rfl (by first | rfl | assumption | (simp;done)) rfl ae);(focus ((apply aF 15 rfl ab rfl rfl;(exact kE rfl ab rfl rfl (by first | rfl | assumption | (simp;done)) rfl rfl rfl (by first | rfl | assumption | (simp;done)) rfl ae));(apply aF 16 rfl ab rfl rfl;exact bC rfl rfl rfl);(apply aF 17 rfl ab rfl rfl;(exact aI (d:=0) rfl rfl rfl ab));(apply aF 18 rfl ab rfl rfl;exact fz rfl rfl rfl rfl rfl rfl ab rfl);(refine bh ab ?_;exact aV (Wk.of ⟨rfl,rfl,rfl,rfl,ag⟩ ⟨rfl,rfl,rfl,ag⟩ ⟨rfl,ag⟩))));(focus ((apply aF 0 rfl ab rfl rfl;exact aj rfl rfl);(apply aF 16 rfl ab rfl rfl;exact bC rfl rfl rfl);(apply aF 17 rfl ab rfl rfl;(exact aI (d:=0) rfl rfl rfl ab));(apply aF 18 rfl ab rfl rfl;exact fz rfl rfl rfl rfl rfl rfl ab rfl);(refine bh ab ?_;exact aV (Wk.of ⟨rfl,rfl,rfl,rfl,ag⟩ ⟨rfl,rfl,rfl,ag⟩ ⟨rfl,ag⟩))))))
  (refine an (ak (ah (aa rfl (aj rfl rfl) (aa rfl (aj rfl rfl) (aa rfl (bC rfl rfl rfl) ?_)))));apply aa rfl;(exact aI (d:=1) rfl rfl rfl ab);apply aa rfl;exact aZ rfl ab rfl rfl rfl rfl;apply aa rfl;exact aj rfl rfl;apply aa rfl;(exact bW (E:=2) rfl ab rfl);apply aa rfl;(exact bE rfl ab rfl rfl rfl (by first | rfl | assumption | (simp;done)) rfl rfl ae);apply aa rfl;exact bC rfl rfl rfl;apply aa rfl;(exact aI (d:=1) rfl rfl rfl ab);apply aa rfl;exact fz rfl rfl rfl rfl rfl rfl ab rfl;refine ar (an (ak (ah (aa rfl (aj rfl rfl) (aa rfl (aj rfl rfl) (aa rfl (aj rfl rfl) (aa rfl (aj rfl rfl) ?_)))))));apply aa rfl;(apply au 150;exact dc [(0,1010)] hL ab rfl rfl ⟨rfl,rfl,rfl,rfl,ag⟩ ⟨⟨_,rfl, .inl rfl⟩,⟨_,rfl, .inl rfl⟩,⟨_,rfl, .inl rfl⟩,ag⟩ ⟨rfl,rfl,rfl,ag⟩ rfl rfl);refine ar (an (ak (ah (aa rfl (aj rfl rfl) (aa rfl (ai rfl rfl) (ar (an (aS ?_)))))))))
  exact bu (.inl rfl) rfl (.tmp rfl) ⟨rfl,rfl,rfl,ag⟩ ⟨rfl,ag⟩
end Go.Proofs.YtekbhbcgoadciaaGreat
namespace Go.Proofs.YtekbhbcgoadciaaGreat
open Go.RowKit
theorem xa {P:Program} {ω:bY} {w:World} {ow:Nm×Option Nat} {h:Hd} {T E k dlen n m off c:Nat} {ty:TypeId} {u:Value} {cell:Nat→Value→Prop} {a:Addr} {news:List Value} (hT:pN P T E k=true) (hk0:0 < k) (hk:h.k=k)
  (hv:dJ ω w ow h E dlen cell) (hu:Ep h off n u) (hd:(off + n) * k=dlen) (hm0:0 < m) (hl:news.length=m * k) (hnews:∀j v,news[j]? =some v→w.cell? (a.add j)=some v) (h1:∀v∈news,v.oneCell'=true) (hb:n + m≤2199023255552):
  ∃ao' c' w',(Builtin.append_ #[T,T] ty #[u, .slice (some a) m c]).run P w= .ok (.slice ao' (n + m) c') w'∧((∃h',ao'=h'.ao∧c'=h'.c∧Grown ω w w' ow h' E k (n * k) news (fun j u=>cell (off * k + j) u))∨
   (Ep h off (n + m) (.slice ao' (n + m) c')∧Grown ω w w' ow h E k dlen news cell)):=by
 rcases Nat.eq_zero_or_pos off with hoff | hoff
 ·obtain ⟨h',w',r1,r2⟩:=km (ty:=ty) (c:=c) hT hk0 hk hv hu hoff hd hm0 hl hnews h1 hb
  exact ⟨_,_,w',r1, .inl ⟨h',rfl,rfl,r2⟩⟩
 obtain ⟨i,z,e1,e2,e3,e4,e5,e6⟩:=ep hT
 obtain ⟨ao,rfl,ha0,ha1⟩:=hu
 have hby:(n + m) * i.bytes≤140737488355328:=Nat.le_trans (Nat.mul_le_mul_left _ e4) ae
 have hb0:0 + m≤maxLen:=by simp [maxLen];omega
 have hbn:n + m≤maxLen:=by simp [maxLen];omega
 subst e3
 have fresh:∀(cs0:List Value) (cap:Nat),cs0.length=n * i.size→n + m≤cap→cap≤maxLen→(∀j,j < n * i.size→∃u,cs0[j]? =some u∧cell (off * i.size + j) u)→∀w1:World,w1.heap=w.heap→w1.os=w.os→w1.tape=w.tape→w1.output=w.output→
   Grown ω w (w1.alloc (.cells (cs0.toArray ++ news.toArray ++ Builtin.zeroCells z.cells (cap - (n + m))) E)) ow ⟨some ⟨w.heap.size,0,none⟩,cap,i.size⟩ E i.size (n * i.size) news (fun j u=>cell (off * i.size + j) u):=by
  intro cs0 cap hc0 hcap hcm hcs w1 hw1 ho1 ht1 hout1
  have hs1:w1.heap.size=w.heap.size:=by rw [hw1]
  refine { k_:=rfl,os:=ho1,tape:=ht1,output:=hout1,size:=by simp [hs1],other:=fun b hb _=> ?_,vec:=⟨w.heap.size,0,_,rfl,by simp [bY.new],by rw [←hs1];exact heap_alloc_new w1 _, ?_, ?_,hcm,fun j hj=> ?_,fun j v hj=> ?_⟩ }
  ·rw [Below.heap_alloc w1 _ b ae,hw1]
  ·simp only [Array.size_append,List.size_toArray,size_zeroCells,e6,hc0,hl,←Nat.add_mul,Nat.zero_add]
   exact ⟨trivial,by congr 1;omega⟩
  ·rw [hl,←Nat.add_mul];exact Nat.mul_le_mul_right _ hcap
  ·obtain ⟨u,hu,hcu⟩:=hcs j hj
   refine ⟨u, ?_,hcu⟩
   rw [Nat.zero_add,Array.getElem?_append_left (by simp [hc0];omega),Array.getElem?_append_left (by simp [hc0];omega)]
   simpa using hu
  ·have hjl:j < news.length:=(List.getElem?_eq_some_iff.1 hj).1
   rw [Nat.zero_add,Array.getElem?_append_left (by simp [hc0];omega),Array.getElem?_append_right (by simp [hc0])]
   simpa [hc0] using hj
 rcases hv with ⟨hao,hc,hd0⟩ | ⟨b,o,cs,g1,g2,g3,⟨ho,g4⟩,g5,g6,g7⟩
 ·exfalso
  have h0:(off + n) * i.size=0:=by rw [hd,hd0]
  rcases Nat.eq_zero_or_pos (off + n) with h8 | h8
  ·omega
  ·have:=Nat.mul_pos h8 hk0;omega
 ·rw [hk] at g4 g5
  have hoc:off + n≤h.c:=Nat.le_of_mul_le_mul_right (by rw [hd];exact g5) hk0
  have hmul:∀x,x≤h.c→x * i.size≤h.c * i.size:=fun x hx=>Nat.mul_le_mul_right _ hx
  have hbs:b < w.heap.size:=fm g3
  have old:∀j,j < n * i.size→∃u,cs[o + off * i.size + j]? =some u∧cell (off * i.size + j) u:=fun j hj=>by
   obtain ⟨u,hu,hcu⟩:=g7 (off * i.size + j) (by rw [←hd,Nat.add_mul];omega)
   exact ⟨u,by rw [Nat.add_assoc];exact hu,hcu⟩
  have haos:off < h.c→ao=some ⟨b,o + off * i.size,none⟩:=fun hlt=>by
   rcases Nat.eq_zero_or_pos off with h0 | h0
   ·rw [ha0 h0,g1,h0];simp
   ·rw [ha1 h0 hlt,g1,hk];rfl
  by_cases hroom:n + m≤h.c - off
  ·have hlt:off < h.c:=by omega
   rw [haos hlt]
   have hfit:o + off * i.size + n * i.size + news.length≤cs.size:=by
    have h2:=hmul (off + n + m) ae
    rw [Nat.add_mul,Nat.add_mul] at h2
    rw [hl];omega
   have hr:=m9 (P:=P) (ty:=ty) w T E i e1 e2 b (o + off * i.size) n (h.c - off) cs g3 a m c news hl hnews h1 hroom hfit
   have hnl:n * i.size + news.length≤(h.c - off) * i.size:=by rw [hl,←Nat.add_mul];exact Nat.mul_le_mul_right _ hroom
   have htl:(cs.toList.take (o + off * i.size + n * i.size)).length=o + off * i.size + n * i.size:=by
    rw [List.length_take,Array.length_toList];omega
   refine ⟨some ⟨b,o + off * i.size,none⟩,h.c - off,_,hr, .inr ⟨⟨_,rfl,fun e=>absurd e ae,fun _ _=>by rw [g1,hk];rfl⟩, ?_⟩⟩
   have hon:o + off * i.size + n * i.size=o + dlen:=by rw [←hd,Nat.add_mul];omega
   rw [hon] at hfit htl
   refine { k_:=hk,os:=rfl,tape:=rfl,output:=rfl,size:=by simp,other:=fun b' _ hne=>setRow_other w b b' _ (fun e=>hne (e ▸ g2)),vec:=⟨b,o,_,g1,by simp [bY.new,Nat.ne_of_lt hbs,g2],setRow_heap w b cs _ E _ g3,⟨ho, ?_⟩, ?_,g6,fun j hj=> ?_,fun j v hj=> ?_⟩ }
   ·rw [hon]
    simp only [List.size_toArray,List.length_append,htl,List.length_drop,Array.length_toList]
    omega
   ·omega
   ·obtain ⟨u,hu,hcu⟩:=g7 j hj
    refine ⟨u, ?_,hcu⟩
    rw [hon]
    simp only [List.getElem?_toArray]
    rw [List.append_assoc,List.getElem?_append_left (by rw [htl];omega),List.getElem?_take,if_pos ae]
    simpa using hu
   ·rw [hon]
    simp only [List.getElem?_toArray]
    have:=rY (a:=cs.toList.take (o + dlen)) (c:=cs.toList.drop (o + dlen + news.length)) hj
    rw [htl] at this
    exact this
  ·have holds:∀u',n * i.size≠0→ao=some u'→u'=⟨b,o + off * i.size,none⟩:=fun u' hn0 he=>by
    have hnp:0 < n:=by
     rcases Nat.eq_zero_or_pos n with h8 | h8
     ·subst h8;simp at hn0
     ·exact h8
    rw [haos ae] at he;exact (Option.some.inj he).symm
   have hol:((cs.toList.drop (o + off * i.size)).take (n * i.size)).length=n * i.size:=by
    rw [List.length_take,List.length_drop,Array.length_toList]
    have h2:=hmul (off + n) hoc
    rw [Nat.add_mul] at h2
    omega
   have hoat:∀(j:Nat) (u:Value),((cs.toList.drop (o + off * i.size)).take (n * i.size))[j]? =some u→j < n * i.size∧cs[o + off * i.size + j]? =some u:=fun j u hj=>by
    have hjl:j < n * i.size:=by have:=(List.getElem?_eq_some_iff.1 hj).1;omega
    rw [List.getElem?_take,if_pos hjl,List.getElem?_drop] at hj
    exact ⟨hjl,by simpa using hj⟩
   have hfresh:=fresh ((cs.toList.drop (o + off * i.size)).take (n * i.size)) (grownCap w (n + m) (h.c - off) E) hol (grownCap_ge _ _ _ _) (grownCap_le_maxLen _ _ _ _ hbn) (fun j hj=>by
    obtain ⟨u,hu,hcu⟩:=old j hj
    refine ⟨u, ?_,hcu⟩
    rw [List.getElem?_take,if_pos hj,List.getElem?_drop]
    simpa using hu) w.drew rfl rfl rfl rfl
   cases hao:ao with
   | none=>
    have hno:¬off < h.c:=fun hlt=>by rw [haos hlt] at hao;cases hao
    have hn0:n=0:=by omega
    subst hn0
    have hc0:h.c - off=0:=by omega
    rw [hc0] at hfresh ⊢
    have hr:=run_append_nil (P:=P) (ty:=ty) w T E i z e1 e2 e5 a m c news hl hnews hm0 ae (by simp only [Nat.zero_add] at hby;omega)
    exact ⟨_,_,_,by rw [hr,Nat.zero_add], .inl ⟨⟨some ⟨w.heap.size,0,none⟩,grownCap w m 0 E,i.size⟩,rfl,rfl,by simpa using hfresh⟩⟩
   | some a'=>
    have hr:=run_append_grow (P:=P) (ty:=ty) w T E i z e1 e2 e5 a' n (h.c - off) _ hol (fun j u hj=>by
     obtain ⟨hj1,hj2⟩:=hoat j u hj
     rw [holds a' ae hao,Addr.add_lit]
     show w.cell? ⟨b,o + off * i.size + j,none⟩=some u
     rw [cell_of_row w b _ cs E (0,0) g3];exact hj2) a m c news hl hnews ae ae (growslice_fits ae hby)
    exact ⟨_,_,_,hr, .inl ⟨⟨some ⟨w.heap.size,0,none⟩,grownCap w (n + m) (h.c - off) E,i.size⟩,rfl,rfl,hfresh⟩⟩
section
variable {P:Program} {nt:Nat} {S S1 S2:St} {w0 w:World} {ω0:ml} {ω:bY} {η:Env} {a:Act} {Q:Exit→Act→World→Prop} {ops:Array Oper} {rest:List Oper}
variable {t:Nat} {ty:TypeId} {ps:String} {af:Array Edge} {gd:Option (Nat×Bool)} {x y:Operand} {av:AV} {o:Oper}
structure AM (P:Program) (nt:Nat) (o:Oper) (S S1 S2:St):Prop where
 go:∀w0 ω0 a w Q,Sat w0 ω0 nt S a w→o.wp P a w (fun a w=>Sat w0 ω0 nt S1 a w∨Sat w0 ω0 nt S2 a w) Q
theorem Ae (hg:o.guard=none) (h:AM P nt o S S1 S2) (k1:qQ P w0 ω0 nt ops Q S1 rest) (k2:qQ P w0 ω0 nt ops Q S2 rest):qQ P w0 ω0 nt ops Q S (o :: rest):=by
 refine ⟨fun a w hs=>wpList_plain hg fun K' hK'=> ?_⟩
 exact Oper.wp_mono (fun a' w' h'=>hK' _ _ (h'.elim (fun h1=>k1.go a' w' h1) fun h2=>k2.go a' w' h2)) (h.go w0 ω0 a w Q hs)
theorem AM.fin {w':World} {v:Value} (h:(execOp a.eval o).run P w= .ok (.value v) w') (k:Sat w0 ω0 nt S1 (a.put o.dst v) w'∨Sat w0 ω0 nt S2 (a.put o.dst v) w'):o.wp P a w (fun a w=>Sat w0 ω0 nt S1 a w∨Sat w0 ω0 nt S2 a w) Q:=by
 unfold Oper.wp
 rw [h]
 exact k
theorem lx {T E k n off len m:Nat} {vs news:List Value} {b:A1} (ht:Nat.blt t nt=true) (hT:pN P T E k=true) (hk0:Nat.blt 0 k=true) (hx:S.op x=some (o1 (.sl n off len))) (hc:S.ch n=some ⟨true,E,k, .bR vs⟩) (hl:(off + len) * k=vs.length)
  (hy:S.op y=some (o1 b)) (hr:Reads S b m k news) (hm:0 < m) (h1:∀v∈news,v.oneCell'=true) (hb:len + m≤2199023255552):
  AM P nt ⟨some t, .call { callee:= .builtin .append,args:= #[x,y],argTypes:= #[T,T] },ty,ps,af,gd⟩ S ((S.new n ⟨true,E,k, .bR (vs.drop (off * k) ++ news)⟩).put t (o1 (.sl n 0 (len + m)))) ((S.new n ⟨true,E,k, .bR (vs ++ news)⟩).put t (o1 (.sl n off (len + m)))):=by
 refine ⟨fun w0 ω0 a w Q ⟨η,ω,hs⟩=> ?_⟩
 have hk0':0 < k:=by simpa using hk0
 obtain ⟨hd,e1,e2,e3⟩:=hs.chunk hc
 have e3:dJ ω w (n,none) hd E vs.length (cI η ω w true n (.bR vs)):=e3
 have hu:c6 η (.sl n off len) (a.eval x):=hs.iE hx
 obtain ⟨ad,cp,r1,r2⟩:=hr.go hs (hs.iE hy)
 have hnl:=hr.len
 have hn0:0 < news.length:=by rw [hnl];exact Nat.mul_pos hm hk0'
 obtain ⟨bb,o,r3,_⟩:=r2 0 _ (List.getElem?_eq_getElem hn0)
 subst r3
 obtain ⟨ao',c',w',k1,k2⟩:=xa (P:=P) (ty:=ty) (c:=cp) hT hk0' e2 e3 (hu.2 hd e1) hl hm hnl (a:=⟨bb,o,none⟩) (fun j v hj=>by
  obtain ⟨b2,o2,h2,h3⟩:=r2 j v hj
  simp only [Option.some.injEq,Addr.mk.injEq,and_true] at h2
  obtain ⟨rfl,rfl⟩:=h2
  rw [Addr.add_lit];exact h3) h1 hb
 refine AM.fin (v:= .slice ao' (len + m) c') (w':=w') (by simp [execOp,resolve,invoke,builtin,r1,k1]) ?_
 rcases k2 with ⟨h',q1,q2,k2⟩ | ⟨k3,k2⟩
 ·left
  subst q1 q2
  have hlen:(vs.drop (off * k) ++ news).length=len * k + news.length:=by
   rw [List.length_append,List.length_drop,←hl,Nat.add_mul];omega
  have:=hs.renew (n:=n) (c:=⟨true,E,k, .bR (vs.drop (off * k) ++ news)⟩) (hd:=h') (r:=fun _=>⟨none,0,1⟩) (kZ (by simp [fG]) k2) ⟨k2.k_,by
   obtain ⟨b',o',cs',v1,v2,v3,v4,v5,v6,v7,v8⟩:=k2.vec
   refine .inr ⟨b',o',cs',v1,v2,v3,by rw [k2.k_];exact v4,by rw [k2.k_];show (vs.drop (off * k) ++ news).length≤_;rw [hlen];exact v5,v6,fun j hj=> ?_⟩
   have hj:j < (vs.drop (off * k) ++ news).length:=hj
   rw [hlen] at hj
   by_cases hlt:j < len * k
   ·obtain ⟨u,q1,q2⟩:=v7 j hlt
    have q2:vs[off * k + j]? =some u:=q2
    refine ⟨u,q1, ?_⟩
    show (vs.drop (off * k) ++ news)[j]? =some u
    rw [List.getElem?_append_left (by rw [List.length_drop,←hl,Nat.add_mul];omega),List.getElem?_drop];exact q2
   ·have hdl:(vs.drop (off * k)).length=len * k:=by rw [List.length_drop,←hl,Nat.add_mul];omega
    have hj2:j - len * k < news.length:=by omega
    refine ⟨news[j - len * k], ?_, ?_⟩
    ·have:=v8 (j - len * k) _ (List.getElem?_eq_getElem hj2)
     rw [show o' + len * k + (j - len * k)=o' + j by omega] at this;exact this
    ·show (vs.drop (off * k) ++ news)[j]? =_
     rw [List.getElem?_append_right ae,hdl,List.getElem?_eq_getElem hj2]⟩
  exact ⟨_,_,this.fU (by simpa using ht) mH⟩
 ·right
  have:=hs.renew (n:=n) (c:=⟨true,E,k, .bR (vs ++ news)⟩) (hd:=hd) (r:=fun _=>⟨none,0,1⟩) (kZ (by simp [fG]) k2) ⟨k2.k_,by
   obtain ⟨b',o',cs',v1,v2,v3,v4,v5,v6,v7,v8⟩:=k2.vec
   refine .inr ⟨b',o',cs',v1,v2,v3,by rw [k2.k_];exact v4,by rw [k2.k_];show (vs ++ news).length≤_;rw [List.length_append];exact v5,v6,fun j hj=> ?_⟩
   have hj:j < (vs ++ news).length:=hj
   rw [List.length_append] at hj
   by_cases hlt:j < vs.length
   ·obtain ⟨u,q1,q2⟩:=v7 j hlt
    have q2:vs[j]? =some u:=q2
    refine ⟨u,q1, ?_⟩
    show (vs ++ news)[j]? =some u
    rw [List.getElem?_append_left hlt];exact q2
   ·have hj2:j - vs.length < news.length:=by omega
    refine ⟨news[j - vs.length], ?_, ?_⟩
    ·have:=v8 (j - vs.length) _ (List.getElem?_eq_getElem hj2)
     rw [show o' + vs.length + (j - vs.length)=o' + j by omega] at this;exact this
    ·show (vs ++ news)[j]? =_
     rw [List.getElem?_append_right ae,List.getElem?_eq_getElem hj2]⟩
  exact ⟨_,_,this.fU (by simpa using ht) ⟨⟨_,_,rfl⟩,fun hd' he=>by
   simp [Env.new] at he;subst he;exact k3⟩⟩
def eZ (q:List (Int×Int)):List Int:=q.flatMap fun p=> [p.1,p.2]
theorem uk:∀q:List (Int×Int),(eZ q).length=2 * q.length
 | []=>rfl
 | p :: r=>by have:=uk r;simp [eZ] at this ⊢;omega
theorem vT {zs:List Int} {j:Nat} {z:Int} (h:zs[j]? =some z):(aL zs)[j]? =some (I6 z):=by simp [aL,h]
theorem lr {T:TypeId} {x0 x1:Operand} {z0 z1:Int} (ht:Nat.blt t nt=true) (hx0:S.op x0=some (vv (I6 z0))) (hx1:S.op x1=some (vv (I6 z1))) (hb:P.built T [(0,I6 z0),(1,I6 z1)]=some #[I6 z0,I6 z1]):
  cu P nt ⟨some t, .build T #[(0,x0),(1,x1)],ty,ps,af,gd⟩ S (S.put t (.s (.agg [.val (I6 z0), .val (I6 z1)]))):=
 cu.of _ fun w0 ω0 η ω a w hs=>by
  refine ⟨.agg #[I6 z0,I6 z1],w, ?_,η,ω,hs.fU (by simpa using ht) (⟨_,rfl,rfl,fun j b hb=> ?_⟩:gj η (.agg [.val (I6 z0), .val (I6 z1)]) _)⟩
  ·simp only [execOp]
   simp [hs.gQ hx0,hs.gQ hx1,run_build w T #[(0,I6 z0),(1,I6 z1)] _ hb]
  ·match j,hb with
   | 0,hb=>simp at hb;subst hb;exact ⟨_,by simp,rfl⟩
   | 1,hb=>simp at hb;subst hb;exact ⟨_,by simp,rfl⟩
theorem mr {T:TypeId} {x0 x1:Operand} {b0 b1:A1} {vs:List Value} {n0 n1:Nat} (ht:Nat.blt t nt=true) (hx0:S.op x0=some (o1 b0)) (hx1:S.op x1=some (o1 b1)) (hl0:b0.len=some n0) (hl1:b1.len=some n1)
  (hb:∀ao n c ao' n' c',P.built T [(0, .slice ao n c),(1, .slice ao' n' c')]=some (#[.slice ao n c, .slice ao' n' c'] ++ vs.toArray)):
  cu P nt ⟨some t, .build T #[(0,x0),(1,x1)],ty,ps,af,gd⟩ S (S.put t (.s (.agg (b0 :: b1 :: vs.map .val)))):=
 cu.of _ fun w0 ω0 η ω a w hs=>by
  have d0:c6 η b0 (a.eval x0):=hs.iE hx0
  have d1:c6 η b1 (a.eval x1):=hs.iE hx1
  obtain ⟨ao,c,e0⟩:=d0.len_ hl0
  obtain ⟨ao',c',e1⟩:=d1.len_ hl1
  refine ⟨.agg (#[a.eval x0,a.eval x1] ++ vs.toArray),w, ?_,η,ω,hs.fU (by simpa using ht) (⟨_,rfl,by simp,fun j b hb=> ?_⟩:gj η (.agg (b0 :: b1 :: vs.map .val)) _)⟩
  ·simp only [execOp]
   have:=run_build w T #[(0, .slice ao n0 c),(1, .slice ao' n1 c')] _ (hb ao n0 c ao' n1 c')
   simp [e0,e1,this]
  ·match j,hb with
   | 0,hb=>simp at hb;subst hb;exact ⟨_,by simp,d0⟩
   | 1,hb=>simp at hb;subst hb;exact ⟨_,by simp,d1⟩
   | j + 2,hb=>
    simp only [List.getElem?_cons_succ,List.getElem?_map,Option.map_eq_some_iff] at hb
    obtain ⟨v,hv,rfl⟩:=hb
    exact ⟨v,by simpa [Array.getElem?_append] using hv,rfl⟩
theorem oK {T E:Nat} {x0:Operand} {z0 z1:Int} (ht:Nat.blt t nt=true) (hT:pN P T E 2=true) (hx:S.op x0=some (.s (.agg [.val (I6 z0), .val (I6 z1)]))):
  cu P nt ⟨some t, .buildSlice T 1 #[(0,x0)],ty,ps,af,gd⟩ S ((S.new t ⟨true,E,2, .bR (aL [z0,z1])⟩).put t (o1 (.sl t 0 1))):=
 cu.of _ fun w0 ω0 η ω a w hs=>by
  obtain ⟨i,z,k1,k2,k3,k4,k5,k6⟩:=ep hT
  obtain ⟨us,hu,hul,hua⟩:gj η (.agg [.val (I6 z0), .val (I6 z1)]) (a.eval x0):=hs.iE hx
  obtain ⟨u0,g0,rfl⟩:=hua 0 _ rfl
  obtain ⟨u1,g1,rfl⟩:=hua 1 _ rfl
  obtain rfl:us= #[I6 z0,I6 z1]:=by
   have:us.size=2:=hul
   match us with
   | ⟨[p,q]⟩=>simp at g0 g1;rw [g0,g1]
  refine ⟨.slice (some ⟨w.heap.size,0,none⟩) 1 1,w.alloc (.cells #[I6 z0,I6 z1] E), ?_, ?_⟩
  ·have hc:(Value.agg #[I6 z0,I6 z1]).cells= #[I6 z0,I6 z1]:=rfl
   simp [execOp,Instr.buildSlice,run_underlying k1,sizeOf,typeInfo,k2,k3,zeroValue,k5,Instr.fill,newRow,hu,hc,y8]
  ·have hal:=hs.alloc (x:=t) (c:=⟨true,E,2, .bR (aL [z0,z1])⟩) (cs:= #[I6 z0,I6 z1]) (r:=fun _=>⟨none,0,1⟩) (n:=1) rfl (by simp) (by simp [eQ.len,aL]) (by simp [maxLen]) fun j hj=>by
    have hj:j < 2:=hj
    match j,hj with
    | 0,_=>exact ⟨_,by simp,rfl⟩
    | 1,_=>exact ⟨_,by simp,rfl⟩
   exact ⟨_,_,hal.fU (by simpa using ht) eF⟩
end
end Go.Proofs.YtekbhbcgoadciaaGreat
namespace Go.Proofs.YtekbhbcgoadciaaGreat
open Go.RowKit
section
variable {P:Program} {nt:Nat} {S S1 S2:St} {w0 w:World} {ω0:ml} {ω:bY} {η:Env} {a:Act} {Q:Exit→Act→World→Prop} {ops:Array Oper} {rest:List Oper}
variable {t:Nat} {ty:TypeId} {ps:String} {af:Array Edge} {gd:Option (Nat×Bool)} {x y:Operand} {av:AV} {o:Oper}
theorem pX {T:TypeId} {n:Nm} {i:Nat} {c:Ch} {cs:List kX} {v:Value} (ht:Nat.blt t nt=true) (hT:qe P T=true) (hx:S.op x=some (o1 (.ptr n i))) (hc:S.ch n=some c) (hd:c.d= .mix cs) (hv:cs[i]? =some (.v v)):
  cu P nt ⟨some t, .load T x,ty,ps,af,gd⟩ S (S.put t (vv v)):=mw ht hT hx hc (by rw [hd];simp only [eQ.at_,hv])
theorem k9 {T:TypeId} {n:Nm} {i F k m:Nat} {c:Ch} {cs:List kX} {vs:List Value} (ht:Nat.blt t nt=true) (hT:qe P T=true) (hx:S.op x=some (o1 (.ptr n i))) (hc:S.ch n=some c) (hd:c.d= .mix cs) (hv:cs[i]? =some (.r F k m vs)):
  cu P nt ⟨some t, .load T x,ty,ps,af,gd⟩ S (S.put t (o1 (.esl n i 0 m))):=mw ht hT hx hc (by rw [hd];simp only [eQ.at_,hv])
theorem cG {T:TypeId} {n:Nm} {i k:Nat} {c:Ch} {l:List A1} (ht:Nat.blt t nt=true) (hx:S.op x=some (o1 (.ptr n i))) (hc:S.ch n=some c) (hl:l.length=k) (hk0:Nat.blt 0 k=true) (hT:vV P T k=true)
  (ha:∀(j:Nat) (b:A1),l[j]? =some b→c.d.at_ n (i + j)=some b):cu P nt ⟨some t, .load T x,ty,ps,af,gd⟩ S (S.put t (.s (.agg l))):=
 cu.pure rfl ht fun _ _ η ω a w hs=>by
  obtain ⟨h,e1,e2,e3⟩:=hs.chunk hc
  have hp:c6 η (.ptr n i) (a.eval x):=hs.iE hx
  obtain ⟨b,o,g1,g2⟩:=hp.2 h e1
  have key:∀j (hj:j < k),∃u,w.cell? ⟨b,o + i + j,none⟩=some u∧∀b1,l[j]? =some b1→c6 η b1 u:=fun j hj=>by
   have hlj:l[j]? =some l[j]:=List.getElem?_eq_getElem ae
   obtain ⟨b',o',u,f1,f2,f3⟩:=e3.get (j:=i + j) (eQ.Ez (ha j _ hlj))
   rw [g1] at f1;injection f1 with f1;injection f1 with f1 f1';subst f1 f1'
   exact ⟨u,by rw [Nat.add_assoc];exact f2,fun b1 hb1=>Ag f3 (ha j b1 hb1)⟩
  refine ⟨.agg ((List.range k).map fun j=>(w.cell? ⟨b,o + i + j,none⟩).getD undef).toArray, ?_,⟨_,rfl,by simp;omega,fun j b1 hb1=> ?_⟩⟩
  ·have:=qF (P:=P) (w:=w) hT (b:=b) (o:=o + i) (us:=(List.range k).map fun j=>(w.cell? ⟨b,o + i + j,none⟩).getD undef) (by simp) fun j u hu=>by
    rw [List.getElem?_map,Option.map_eq_some_iff] at hu
    obtain ⟨j',hj',rfl⟩:=hu
    have hjk:j < k:=by have:=(List.getElem?_eq_some_iff.1 hj').1;simpa using this
    rw [List.getElem?_range hjk] at hj'
    obtain rfl:=Option.some.inj hj'
    obtain ⟨u,hu,_⟩:=key j hjk
    rw [hu];rfl
   simp [execOp,g2,Instr.loadAt,Instr.sureAddr,this]
  ·have hjk:j < k:=by rw [←hl];exact (List.getElem?_eq_some_iff.1 hb1).1
   obtain ⟨u,hu,hdu⟩:=key j hjk
   exact ⟨u,by simp [hjk,hu],hdu b1 hb1⟩
theorem zr {T:TypeId} {n:Nm} {i:Nat} {c:Ch} {cs:List kX} {v v0:Value} (hx:S.op x=some (o1 (.ptr n i))) (hy:S.op y=some (vv v)) (hc:S.ch n=some c) (hown:c.own=true) (hd:c.d= .mix cs) (hi:cs[i]? =some (.v v0)) (hT:jd P T 1=true) (h1:v.oneCell'=true):
  cu P nt ⟨none, .store T x y,ty,ps,af,gd⟩ S (S.set n { c with d:= .mix (cs.set i (.v v)) }):=
 have hil:i < cs.length:=(List.getElem?_eq_some_iff.1 hi).1
 cu.unit rfl fun w0 ω0 η ω a w hs=>by
  have hb:a.eval y=v:=hs.gQ hy
  obtain ⟨w',k1,k2⟩:=hs.y7 (P:=P) (T:=T) (v:=v) (d':= .mix (cs.set i (.v v))) (hs.iE hx) hc hown (by rw [hd];exact hil) hT h1 (by rw [hd];simp [eQ.len])
   (fun w' j u hj hk=>by rw [hd] at hk;exact ⟨hk.1,fun c hc'=>by rw [List.getElem?_set_ne (fun e=>hj e.symm)] at hc';exact hk.2 c hc'⟩)
   (fun w'=>⟨h1,fun c hc'=>by rw [List.getElem?_set_self hil] at hc';obtain rfl:=Option.some.inj hc';exact rfl⟩)
  exact ⟨w',by simp [execOp,hb,k1],_,_,k2⟩
def rP:kX→Value→Prop
 | .v y,u=>u=y
 | .r _ _ m vs,u=>m=0∧vs= []∧u= .slice none 0 0
 | .any,_=>True
def Jo:kX→Nat
 | .r _ k _ _=>k
 | _=>1
theorem rP.ok {own:Bool} {n:Nm} {j:Nat} {c:kX} {u:Value} (hr:η.r n j=⟨none,0,Jo c⟩) (h:rP c u):kU η ω w true n j c u:=by
 cases c with
 | v y=>exact h
 | any=>trivial
 | r F k m vs=>
  obtain ⟨rfl,rfl,rfl⟩:=h
  refine ⟨by simp,by rw [hr],by rw [hr];rfl, ?_⟩
  rw [hr]
  exact .inl ⟨rfl,rfl,rfl⟩
theorem jl {T E k n len m:Nat} {cs cn:List kX} {news:List Value} {b:A1} (ht:Nat.blt t nt=true) (hT:pN P T E k=true) (hk0:Nat.blt 0 k=true) (hx:S.op x=some (o1 (.sl n 0 len))) (hc:S.ch n=some ⟨true,E,k, .mix cs⟩) (hl:cs.length=len * k)
  (hy:S.op y=some (o1 b)) (hr:Reads S b m k news) (hm:0 < m) (h1:∀v∈news,v.oneCell'=true) (hcn:cn.length=news.length) (hcel:∀(j:Nat) c u,cn[j]? =some c→news[j]? =some u→rP c u) (hb:len + m≤2199023255552):
  cu P nt ⟨some t, .call { callee:= .builtin .append,args:= #[x,y],argTypes:= #[T,T] },ty,ps,af,gd⟩ S ((S.new n ⟨true,E,k, .mix (cs ++ cn)⟩).put t (o1 (.sl n 0 (len + m)))):=
 cu.of _ fun w0 ω0 η ω a w hs=>by
  have hk0':0 < k:=by simpa using hk0
  obtain ⟨hd,e1,e2,e3⟩:=hs.chunk hc
  have e3:dJ ω w (n,none) hd E cs.length (cI η ω w true n (.mix cs)):=e3
  have hu:c6 η (.sl n 0 len) (a.eval x):=hs.iE hx
  obtain ⟨ad,cp,r1,r2⟩:=hr.go hs (hs.iE hy)
  have hnl:=hr.len
  have hn0:0 < news.length:=by rw [hnl];exact Nat.mul_pos hm hk0'
  obtain ⟨bb,o,r3,_⟩:=r2 0 _ (List.getElem?_eq_getElem hn0)
  subst r3
  obtain ⟨h',w',k1,k2⟩:=km (P:=P) (ty:=ty) (c:=cp) hT hk0' e2 e3 (hu.2 hd e1) rfl (by rw [Nat.zero_add];exact hl.symm) hm hnl (a:=⟨bb,o,none⟩) (fun j v hj=>by
   obtain ⟨b2,o2,h2,h3⟩:=r2 j v hj
   simp only [Option.some.injEq,Addr.mk.injEq,and_true] at h2
   obtain ⟨rfl,rfl⟩:=h2
   rw [Addr.add_lit];exact h3) h1 hb
  refine ⟨.slice h'.ao (len + m) h'.c,w',by simp [execOp,resolve,invoke,builtin,r1,k1], ?_⟩
  have hlen:(cs ++ cn).length=len * k + news.length:=by rw [List.length_append,hl,hcn]
  let r':Nat→Hd:=fun j=>if j < cs.length then η.r n j else ⟨none,0,Jo (cn.getD (j - cs.length) .any)⟩
  have hS:(S.rm n).ch n=none:=by simp [fG]
  have:=hs.renew (n:=n) (c:=⟨true,E,k, .mix (cs ++ cn)⟩) (hd:=h') (r:=r') (kZ hS k2) ⟨k2.k_,by
   obtain ⟨b',o',cs',v1,v2,v3,v4,v5,v6,v7,v8⟩:=k2.vec
   refine .inr ⟨b',o',cs',v1,v2,v3,by rw [k2.k_];exact v4,by rw [k2.k_];show (cs ++ cn).length≤_;rw [hlen];exact v5,v6,fun j hj=> ?_⟩
   have hj:j < (cs ++ cn).length:=hj
   rw [hlen] at hj
   by_cases hlt:j < len * k
   ·obtain ⟨u,q1,q2⟩:=v7 j hlt
    rw [Nat.zero_mul,Nat.zero_add] at q2
    refine ⟨u,q1,q2.1,fun c hc=> ?_⟩
    rw [List.getElem?_append_left ae] at hc
    have hv:∀(F:TypeId) (vs:List Value),dJ ω w (n,some j) (η.r n j) F vs.length (fun i u=>vs[i]? =some u)→dJ (bY.new ω w.heap.size (n,none)) w' (n,some j) (η.r n j) F vs.length (fun i u=>vs[i]? =some u):=fun F vs f3=>
     dJ.same (fun b hb ho=>⟨k2.other b hb (by rw [ho];simp),by simp [bY.new,Nat.ne_of_lt hb,ho]⟩) (fun _ _ h=>h) f3
    exact kU.move (own:=true) (own':=true) (by simp [Env.new,r',hl,hlt]) (fun F k m vs _ f3=>hv F vs f3) (q2.2 c hc)
   ·have hj2:j - len * k < news.length:=by omega
    have hnj:news[j - len * k]? =some news[j - len * k]:=List.getElem?_eq_getElem hj2
    refine ⟨news[j - len * k], ?_,h1 _ (List.getElem_mem hj2),fun c hc=> ?_⟩
    ·have:=v8 (j - len * k) _ hnj
     rw [show o' + len * k + (j - len * k)=o' + j by omega] at this;exact this
    ·rw [List.getElem?_append_right ae,hl] at hc
     refine rP.ok (own:=true) ?_ (hcel _ _ _ hc hnj)
     simp only [Env.new,if_true,r',hl,if_neg hlt,List.getD,hc,Option.getD_some]⟩
  exact ⟨_,_,this.fU (by simpa using ht) mH⟩
theorem ju {n i z k kk m:Nat} {E F s:Nat} {cs:List kX} {vs:List Value} (hc:S.ch n=some ⟨true,E,kk, .mix cs⟩) (hs0:S.sl s=some (o1 (.esl n i 0 m))) (hi:cs[i]? =some (.r F k m vs)) (hzn:Nat.beq z n=false):
  Wk S ((((S.pG n).set n ⟨true,E,kk, .mix (cs.set i .any)⟩).new z ⟨true,F,k, .bR vs⟩).put s (o1 (.sl z 0 m))):=by
 have hne:z≠n:=fun e=>by rw [e] at hzn;simp at hzn
 refine ⟨fun w0 ω0 nt a w ⟨η,ω,h⟩=> ?_⟩
 obtain ⟨u,hu,hdu⟩:=h.slots s _ hs0
 have hdu:c6 η (.esl n i 0 m) u:=hdu
 obtain ⟨hd,e1,e2,e3⟩:=h.chunk hc
 have e3:dJ ω w (n,none) hd E cs.length (cI η ω w true n (.mix cs)):=e3
 obtain ⟨ao,rfl,q1,_⟩:=hdu.2 hd e1
 have hil:i < cs.length:=(List.getElem?_eq_some_iff.1 hi).1
 obtain ⟨b0,o0,u0,_,_,g3⟩:=lN.get (own:=true) e3 hil
 obtain ⟨r0,r1,r2,r3⟩:=g3.2 _ hi
 have r3:dJ ω w (n,some i) (η.r n i) F vs.length fun j u=>vs[j]? =some u:=r3
 let ω':bY:=fun b=>if ω b=some (n,some i) then some (z,none) else ω b
 have calm:Calm (S.rm n) ω w ω' w:=⟨rfl,rfl,rfl,Nat.le_refl _,fun b _ hl=>⟨rfl,by
  have h1:ω b≠some (n,some i):=by
   rcases hl with h0 | ⟨y,j,c,h0,h1⟩
   ·rw [h0];simp
   ·rw [h0];intro e;simp at e;rw [e.1,fG,if_pos rfl] at h1;cases h1
  exact if_neg h1⟩⟩
 have key:eA { η with r:=fun y j=>if y=n then η.r n j else η.r y j } ω' w n hd ⟨true,E,kk, .mix (cs.set i .any)⟩:=by
  refine ⟨e2, ?_⟩
  rcases e3 with h0 | ⟨b,o,xs0,f1,f2,f3,f4,f5,f6,f7⟩
  ·exact .inl (by simpa [eQ.len] using h0)
  ·refine .inr ⟨b,o,xs0,f1,(if_neg (by rw [f2];simp)).trans f2,f3,f4,by simpa [eQ.len] using f5,f6,fun j hj=> ?_⟩
   have hj:j < cs.length:=by simpa [eQ.len] using hj
   obtain ⟨u',hu',hk⟩:=f7 j hj
   refine ⟨u',hu',hk.1,fun c hc'=> ?_⟩
   by_cases e:j=i
   ·subst e;rw [List.getElem?_set_self hil] at hc';obtain rfl:=Option.some.inj hc';trivial
   ·rw [List.getElem?_set_ne (fun e'=>e e'.symm)] at hc'
    have hv:∀(F:TypeId) (vs:List Value),dJ ω w (n,some j) (η.r n j) F vs.length (fun i u=>vs[i]? =some u)→dJ ω' w (n,some j) (η.r n j) F vs.length (fun i u=>vs[i]? =some u):=fun F vs f3=>
     dJ.same (fun b2 _ ho=>⟨rfl,by show (if ω b2=some (n,some i) then some (z,none) else ω b2)=_;rw [if_neg (by rw [ho];simpa using e)];exact ho⟩) (fun _ _ h=>h) f3
    exact kU.move (own:=true) (own':=true) (if_pos rfl) (fun F k m vs _ f3=>hv F vs f3) (hk.2 c hc')
 have h1:=h.rewrite (n:=n) (r:=η.r n) e1 calm key
 have h2:=h1.lay (x:=z) (c:=⟨true,F,k, .bR vs⟩) (hd:=η.r n i) (r:=fun _=>⟨none,0,1⟩) (Calm.refl _ _ _) ⟨r2,by
  show dJ ω' w (z,none) (η.r n i) F vs.length _
  rcases r3 with h0 | ⟨b,o,xs0,f1,f2,f3,f4,f5,f6,f7⟩
  ·exact .inl h0
  ·exact .inr ⟨b,o,xs0,f1,if_pos f2,f3,f4,f5,f6,f7⟩⟩
 refine ⟨_,ω', { h2 with slots:=fun t' av ht'=> ?_ }⟩
 rw [iW] at ht'
 by_cases e:t'=s
 ·subst e
  rw [if_pos rfl] at ht'
  obtain rfl:=Option.some.inj ht'
  refine ⟨_,hu,⟨_,_,rfl⟩,fun hd' he=> ?_⟩
  simp [Env.new] at he
  subst he
  exact ⟨_,rfl,fun _=>q1 rfl,fun h0=>absurd h0 ae⟩
 ·rw [if_neg e] at ht'
  exact h2.slots t' av ht'
theorem gI {T E F n i z k kk m:Nat} {cs:List kX} {vs:List Value} (hx:S.op x=some (o1 (.ptr n i))) (hc:S.ch n=some ⟨true,E,kk, .mix cs⟩) (hy:S.op y=some (o1 (.sl z 0 m))) (hz:S.ch z=some ⟨true,F,k, .bR vs⟩)
  (hm:vs.length=m * k) (hzn:Nat.beq z n=false) (hi:i < cs.length) (hT:jd P T 1=true):cu P nt ⟨none, .store T x y,ty,ps,af,gd⟩ S (((S.rm z).pG n).set n ⟨true,E,kk, .mix (cs.set i (.r F k m vs))⟩):=
 cu.unit rfl fun w0 ω0 η ω a w hs=>by
  have hne:z≠n:=fun e=>by rw [e] at hzn;simp at hzn
  have hp:c6 η (.ptr n i) (a.eval x):=hs.iE hx
  have hv:c6 η (.sl z 0 m) (a.eval y):=hs.iE hy
  obtain ⟨h,e1,e2,e3⟩:=hs.chunk hc
  obtain ⟨hz',z1,z2,z3⟩:=hs.chunk hz
  have z2:hz'.k=k:=z2
  have z3:dJ ω w (z,none) hz' F vs.length (cI η ω w true z (.bR vs)):=z3
  obtain ⟨az,hav,q1,_⟩:=hv.2 hz' z1
  obtain ⟨b,o,g1,g2⟩:=hp.2 h e1
  have e3:dJ ω w (n,none) h E cs.length (cI η ω w true n (.mix cs)):=e3
  rcases e3 with ⟨_,_,h0⟩ | ⟨b',o',xs0,f1,f2,f3,f4,f5,f6,f7⟩
  ·omega
  rw [g1] at f1;injection f1 with f1;injection f1 with f1 f1';subst f1 f1'
  obtain ⟨u,hu,_⟩:=f7 i hi
  have hcell:w.cell? ⟨b,o + i,none⟩=some u:=by rw [cell_of_row w b (o + i) xs0 E (0,0) f3];exact hu
  have hsz:o + i < xs0.size:=by
   rcases Nat.lt_or_ge (o + i) xs0.size with hlt | hge
   ·exact hlt
   ·rw [Array.getElem?_eq_none hge] at hu;cases hu
  have hS:((S.rm z).rm n).ch n=none:=by simp [fG]
  have hSz:((S.rm z).rm n).ch z=none:=by simp [fG,hne]
  have hsame:=jh (w:=w) f2 ⟨b,o + i,none⟩ rfl (.slice az m (hz'.c - 0))
  have calm:Calm ((S.rm z).rm n) ω w (bY.j0 ω z n i) (w.setCell ⟨b,o + i,none⟩ (.slice az m (hz'.c - 0))):=⟨rfl,rfl,rfl,hsame.1,fun b2 hb2 hl=>by
   have h1:ω b2≠some (n,none)∧ω b2≠some (z,none):=by
    rcases hl with h0 | ⟨y,j,c,h0,h1⟩
    ·rw [h0];simp
    ·rw [h0]
     refine ⟨fun e=> ?_,fun e=> ?_⟩
     ·simp at e;rw [e.1,hS] at h1;cases h1
     ·simp at e;rw [e.1,hSz] at h1;cases h1
   exact ⟨(hsame.2 b2 hb2 h1.1).1,if_neg h1.2⟩⟩
  have key:eA { η.drop z with r:=fun y j=>if y=n then (if j=i then hz' else η.r n j) else η.r y j } (bY.j0 ω z n i) (w.setCell ⟨b,o + i,none⟩ (.slice az m (hz'.c - 0))) n h ⟨true,E,kk, .mix (cs.set i (.r F k m vs))⟩:=by
   refine ⟨e2, ?_⟩
   have hbz:ω b≠some (z,none):=by rw [f2];simp;exact fun e=>hne e.symm
   refine .inr ⟨b,o,_,g1,(if_neg hbz).trans f2,heap_set f3 _,by simpa using f4,by show (cs.set i _).length≤_;rw [List.length_set];exact f5,f6,fun j hj=> ?_⟩
   have hj:j < cs.length:=by simpa [eQ.len] using hj
   by_cases e:j=i
   ·subst e
    refine ⟨.slice az m (hz'.c - 0),by simp [hsz],rfl,fun c hc'=> ?_⟩
    rw [List.getElem?_set_self hi] at hc'
    obtain rfl:=Option.some.inj hc'
    unfold kU
    simp only [if_true]
    refine ⟨hm,by rw [q1 rfl];rfl,z2,dJ.j0 z3 fun b2 hb2 ho=>⟨(hsame.2 b2 hb2 (by rw [ho];simp;exact fun e=>absurd e hne)).1,if_pos ho⟩⟩
   ·obtain ⟨u',hu',hk⟩:=f7 j hj
    refine ⟨u',by rw [Array.getElem?_setIfInBounds_ne ae];exact hu',hk.1,fun c hc'=> ?_⟩
    rw [List.getElem?_set_ne (fun e'=>e e'.symm)] at hc'
    have hv:∀(F:TypeId) (vs:List Value),dJ ω w (n,some j) (η.r n j) F vs.length (fun i u=>vs[i]? =some u)→dJ (bY.j0 ω z n i) (w.setCell ⟨b,o + i,none⟩ (.slice az m (hz'.c - 0))) (n,some j) (η.r n j) F vs.length (fun i u=>vs[i]? =some u):=fun F vs r3=>
     dJ.same (fun b2 hb2 ho=>⟨(hsame.2 b2 hb2 (by rw [ho];simp)).1,by unfold bY.j0;rw [if_neg (by rw [ho];simp)];exact ho⟩) (fun _ _ h=>h) r3
    exact kU.move (own:=true) (own':=true) (by simp only [if_true,if_neg e]) (fun F k m vs _ f3=>hv F vs f3) (hk.2 c hc')
  have hfin:=(hs.drop z).rewrite (n:=n) (r:=fun j=>if j=i then hz' else η.r n j) (hd:=h) (by show (if n=z then none else η.h n)=some h;rw [if_neg (fun e=>hne e.symm)];exact e1) calm key
  have hst:=lu (P:=P) hT hcell (mF f3) (v:= .slice az m (hz'.c - 0)) rfl
  simp only [Nat.sub_zero] at hst hfin
  refine ⟨_,by simp [execOp,hav,g2,hst],_,_,hfin⟩
theorem dK {T:TypeId} {n:Nm} {i0 len j k m:Nat} {c:Ch} {F:TypeId} {cs:List kX} {vs:List Value} {ki:IntKind} {i:Int} (ht:Nat.blt t nt=true) (hx:S.op x=some (o1 (.esl n i0 0 len))) (hy:S.op y=some (vv (.int ki i))) (hc:S.ch n=some c) (hd:c.d= .mix cs) (hT:lM P T k=true)
  (hi0:cs[i0]? =some (.r F k m vs)) (hk0:0 < k) (hi:i=(j:Int)) (hj:j < len) (hl:len≤m):cu P nt ⟨some t, .indexAddr T x y,ty,ps,af,gd⟩ S (S.put t (o1 (.eptr n i0 (j * k)))):=
 cu.pure rfl ht fun _ _ η ω a w hs=>by
  obtain ⟨hd',h1,h2,h3⟩:=hs.chunk hc
  have hd1:c6 η (.esl n i0 0 len) (a.eval x):=hs.iE hx
  obtain ⟨ao,e1,e2,e3⟩:=hd1.2 hd' h1
  rw [hd] at h3
  obtain ⟨_,_,_,_,_,k3⟩:=h3.get (j:=i0) (List.getElem?_eq_some_iff.1 hi0).1
  obtain ⟨q0,_,q2,q3⟩:=k3.2 _ hi0
  have hm0:0 < vs.length:=by rw [q0];exact Nat.mul_pos ae hk0
  obtain ⟨b',o',u,f1,f2,f3⟩:=q3.get hm0
  have hao:ao=some ⟨b',o',none⟩:=by rw [e2 rfl,f1]
  subst hao
  refine ⟨.pointer (some ⟨b',o' + j * k,none⟩),by simp only [execOp,e1,hs.gQ hy];simp [kr hT hj hi],⟨_,rfl⟩,fun hd' he=> ?_⟩
  rw [h1] at he;obtain rfl:=Option.some.inj he
  exact ⟨b',o',f1,rfl⟩
theorem cM {T:TypeId} {n:Nm} {i j k m:Nat} {c:Ch} {F:TypeId} {cs:List kX} {vs:List Value} {v:Value} (ht:Nat.blt t nt=true) (hT:qe P T=true) (hx:S.op x=some (o1 (.eptr n i j))) (hc:S.ch n=some c)
  (hd:c.d= .mix cs) (hi:cs[i]? =some (.r F k m vs)) (hj:vs[j]? =some v):cu P nt ⟨some t, .load T x,ty,ps,af,gd⟩ S (S.put t (vv v)):=
 cu.pure rfl ht fun _ _ η ω a w hs=>by
  obtain ⟨hq,h1,_,h3⟩:=hs.chunk hc
  have hd1:c6 η (.eptr n i j) (a.eval x):=hs.iE hx
  obtain ⟨bb,o,e1,e2⟩:=hd1.2 hq h1
  rw [hd] at h3
  obtain ⟨_,_,_,_,_,f3⟩:=h3.get (j:=i) (List.getElem?_eq_some_iff.1 hi).1
  obtain ⟨_,_,_,g3⟩:=f3.2 _ hi
  obtain ⟨b'',o'',u',k1,k2,k3⟩:=g3.get (j:=j) (List.getElem?_eq_some_iff.1 hj).1
  rw [e1] at k1;injection k1 with k1;injection k1 with k1 k1';subst k1 k1'
  rw [hj] at k3
  obtain rfl:=Option.some.inj k3
  exact ⟨v,by simp [execOp,e2,qc hT k2],rfl⟩
theorem dL {T:TypeId} {n:Nm} {len j k K:Nat} {c:Ch} {ki:IntKind} {i:Int} (ht:Nat.blt t nt=true) (hx:S.op x=some (o1 (.sl n 0 len))) (hy:S.op y=some (vv (.int ki i))) (hc:S.ch n=some c) (hk:c.k=k) (hT:lM P T k=true)
  (hi:i=(j:Int)) (hj:j < len) (hl:len * k≤c.d.len) (hk0:0 < k) (hK:j * k=K):cu P nt ⟨some t, .indexAddr T x y,ty,ps,af,gd⟩ S (S.put t (o1 (.ptr n K))):=by
 have:=dh (P:=P) (nt:=nt) (t:=t) (ty:=ty) (ps:=ps) (af:=af) (gd:=gd) ht hx hy hc hk hT hi hj (by rw [Nat.zero_add];exact hl) hk0
 rwa [Nat.zero_add,hK] at this
theorem kf {T:TypeId} {x0:Operand} {v0:Value} {vs:List Value} (ht:Nat.blt t nt=true) (hx0:S.op x0=some (vv v0)) (hb:P.built T [(0,v0)]=some vs.toArray):
  cu P nt ⟨some t, .build T #[(0,x0)],ty,ps,af,gd⟩ S (S.put t (.s (.agg (vs.map .val)))):=
 cu.of _ fun w0 ω0 η ω a w hs=>by
  refine ⟨.agg vs.toArray,w, ?_,η,ω,hs.fU (by simpa using ht) (⟨_,rfl,by simp,fun j b hb=> ?_⟩:gj η (.agg (vs.map .val)) _)⟩
  ·simp only [execOp]
   simp [hs.gQ hx0,run_build w T #[(0,v0)] _ hb]
  ·rw [List.getElem?_map,Option.map_eq_some_iff] at hb
   obtain ⟨v,hv,rfl⟩:=hb
   exact ⟨v,by simpa using hv,rfl⟩
theorem mV {T E:Nat} {x0:Operand} {v0 v1:Value} (ht:Nat.blt t nt=true) (hT:pN P T E 2=true) (hx:S.op x0=some (.s (.agg [.val v0, .val v1]))):
  cu P nt ⟨some t, .buildSlice T 1 #[(0,x0)],ty,ps,af,gd⟩ S ((S.new t ⟨true,E,2, .bR [v0,v1]⟩).put t (o1 (.sl t 0 1))):=
 cu.of _ fun w0 ω0 η ω a w hs=>by
  obtain ⟨i,z,k1,k2,k3,k4,k5,k6⟩:=ep hT
  obtain ⟨us,hu,hul,hua⟩:gj η (.agg [.val v0, .val v1]) (a.eval x0):=hs.iE hx
  obtain ⟨u0,g0,d0⟩:=hua 0 _ rfl
  obtain ⟨u1,g1,d1⟩:=hua 1 _ rfl
  have d0:u0=v0:=d0
  have d1:u1=v1:=d1
  subst d0 d1
  obtain rfl:us= #[u0,u1]:=by
   have:us.size=2:=hul
   match us with
   | ⟨[p,q]⟩=>simp at g0 g1;rw [g0,g1]
  refine ⟨.slice (some ⟨w.heap.size,0,none⟩) 1 1,w.alloc (.cells #[u0,u1] E), ?_, ?_⟩
  ·have hc:(Value.agg #[u0,u1]).cells= #[u0,u1]:=rfl
   simp [execOp,Instr.buildSlice,run_underlying k1,sizeOf,typeInfo,k2,k3,zeroValue,k5,Instr.fill,newRow,hu,hc,y8]
  ·have hal:=hs.alloc (x:=t) (c:=⟨true,E,2, .bR [u0,u1]⟩) (cs:= #[u0,u1]) (r:=fun _=>⟨none,0,1⟩) (n:=1) rfl (by simp) (by simp [eQ.len]) (by simp [maxLen]) fun j hj=>by
    have hj:j < 2:=hj
    match j,hj with
    | 0,_=>exact ⟨_,by simp,rfl⟩
    | 1,_=>exact ⟨_,by simp,rfl⟩
   exact ⟨_,_,hal.fU (by simpa using ht) eF⟩
theorem Io (f:Nat→Value):Array.map f (Array.range 3)= #[f 0,f 1,f 2]:=by apply Array.ext';simp [Array.toList_range,List.range_succ]
theorem IP (f:Nat→Value):Array.map f (Array.range 4)= #[f 0,f 1,f 2,f 3]:=by apply Array.ext';simp [Array.toList_range,List.range_succ]
theorem aX {T E:Nat} {x0 x1 x2:Operand} {z0 z1 z2:Int} (ht:Nat.blt t nt=true) (hT:pN P T E 1=true) (hx0:S.op x0=some (vv (I6 z0))) (hx1:S.op x1=some (vv (I6 z1))) (hx2:S.op x2=some (vv (I6 z2))):
  cu P nt ⟨some t, .buildSlice T 3 #[(0,x0),(1,x1),(2,x2)],ty,ps,af,gd⟩ S ((S.new t ⟨true,E,1, .bR (aL [z0,z1,z2])⟩).put t (o1 (.sl t 0 3))):=
 cu.of _ fun w0 ω0 η ω a w hs=>by
  obtain ⟨i,z,k1,k2,k3,k4,k5,k6⟩:=ep hT
  have h0:=hs.gQ hx0
  have h1:=hs.gQ hx1
  have h2:=hs.gQ hx2
  refine ⟨.slice (some ⟨w.heap.size,0,none⟩) 3 3,w.alloc (.cells #[I6 z0,I6 z1,I6 z2] E), ?_, ?_⟩
  ·simp [execOp,Instr.buildSlice,run_underlying k1,sizeOf,typeInfo,k2,k3,zeroValue,k5,Instr.fill,newRow,h0,h1,h2,Value.cells,Io]
  ·have hal:=hs.alloc (x:=t) (c:=⟨true,E,1, .bR (aL [z0,z1,z2])⟩) (cs:= #[I6 z0,I6 z1,I6 z2]) (r:=fun _=>⟨none,0,1⟩) (n:=3) rfl (by simp) (by simp [eQ.len,aL]) (by simp [maxLen]) fun j hj=>by
    match j,hj with
    | 0,_=>exact ⟨I6 z0,by simp,rfl⟩
    | 1,_=>exact ⟨I6 z1,by simp,rfl⟩
    | 2,_=>exact ⟨I6 z2,by simp,rfl⟩
    | j + 3,hj=>exact absurd hj (by simp [eQ.len,aL])
   exact ⟨_,_,hal.fU (by simpa using ht) eF⟩
theorem aY {T E:Nat} {x0 x1 x2 x3:Operand} {z0 z1 z2 z3:Int} (ht:Nat.blt t nt=true) (hT:pN P T E 1=true) (hx0:S.op x0=some (vv (I6 z0))) (hx1:S.op x1=some (vv (I6 z1))) (hx2:S.op x2=some (vv (I6 z2))) (hx3:S.op x3=some (vv (I6 z3))):
  cu P nt ⟨some t, .buildSlice T 4 #[(0,x0),(1,x1),(2,x2),(3,x3)],ty,ps,af,gd⟩ S ((S.new t ⟨true,E,1, .bR (aL [z0,z1,z2,z3])⟩).put t (o1 (.sl t 0 4))):=
 cu.of _ fun w0 ω0 η ω a w hs=>by
  obtain ⟨i,z,k1,k2,k3,k4,k5,k6⟩:=ep hT
  have h0:=hs.gQ hx0
  have h1:=hs.gQ hx1
  have h2:=hs.gQ hx2
  have h3:=hs.gQ hx3
  refine ⟨.slice (some ⟨w.heap.size,0,none⟩) 4 4,w.alloc (.cells #[I6 z0,I6 z1,I6 z2,I6 z3] E), ?_, ?_⟩
  ·simp [execOp,Instr.buildSlice,run_underlying k1,sizeOf,typeInfo,k2,k3,zeroValue,k5,Instr.fill,newRow,h0,h1,h2,h3,Value.cells,IP]
  ·have hal:=hs.alloc (x:=t) (c:=⟨true,E,1, .bR (aL [z0,z1,z2,z3])⟩) (cs:= #[I6 z0,I6 z1,I6 z2,I6 z3]) (r:=fun _=>⟨none,0,1⟩) (n:=4) rfl (by simp) (by simp [eQ.len,aL]) (by simp [maxLen]) fun j hj=>by
    match j,hj with
    | 0,_=>exact ⟨I6 z0,by simp,rfl⟩
    | 1,_=>exact ⟨I6 z1,by simp,rfl⟩
    | 2,_=>exact ⟨I6 z2,by simp,rfl⟩
    | 3,_=>exact ⟨I6 z3,by simp,rfl⟩
    | j + 4,hj=>exact absurd hj (by simp [eQ.len,aL])
   exact ⟨_,_,hal.fU (by simpa using ht) eF⟩
end
end Go.Proofs.YtekbhbcgoadciaaGreat
namespace Go.Proofs.YtekbhbcgoadciaaGreat
open Go.RowKit
theorem vD (a b:Nat) (ha:a < 1000000) (hb:b < 1000000):bits .and .i64 (a:Int) (b:Int)=((a &&& b:Nat):Int):=by
 have hx:a &&& b < 2 ^ 20:=Nat.and_lt_two_pow _ ae
 have h1:(BitVec.ofInt 64 (a:Int)).toNat=a:=by
  rw [BitVec.ofInt_natCast,BitVec.toNat_ofNat];exact Nat.mod_eq_of_lt ae
 have h2:(BitVec.ofInt 64 (b:Int)).toNat=b:=by
  rw [BitVec.ofInt_natCast,BitVec.toNat_ofNat];exact Nat.mod_eq_of_lt ae
 show IntKind.i64.wrap ((BitVec.ofInt 64 (a:Int) &&& BitVec.ofInt 64 (b:Int)).toNat:Int)=_
 rw [BitVec.toNat_and,h1,h2,IntKind.wrap_i64]
 omega
section
variable {P:Program} {nt:Nat} {S:St} {t:Nat} {ty:TypeId} {ps:String} {af:Array Edge} {gd:Option (Nat×Bool)} {x y:Operand}
theorem l0 {xt yt:TypeId} {a b:Nat} (ht:Nat.blt t nt=true) (hx:S.op x=some (vv (I6 (a:Int)))) (hy:S.op y=some (vv (I6 (b:Int)))) (ha:a < 1000000) (hb:b < 1000000):
  cu P nt ⟨some t, .binOp .and xt x y yt,ty,ps,af,gd⟩ S (S.put t (vv (I6 ((a &&& b:Nat):Int)))):=
 cu.pure rfl ht fun _ _ η _ s w hs=>by
  refine ⟨I6 ((a &&& b:Nat):Int), ?_,rfl⟩
  have hb':=vD a b ha hb
  have e:Op.intBits .and .i64 (a:Int) (b:Int)=pure (I6 ((a &&& b:Nat):Int)):=by rw [←hb'];rfl
  simp [execOp,hs.gQ hx,hs.gQ hy,eqGuard,binOp,e]
theorem dZ {xt yt:TypeId} {kk:IntKind} {a g:Nat} (ht:Nat.blt t nt=true) (hx:S.op x=some (vv (I6 (a:Int)))) (hy:S.op y=some (vv (.int kk (g:Int)))) (hg:g≤64):
  cu P nt ⟨some t, .binOp .shr xt x y yt,ty,ps,af,gd⟩ S (S.put t (vv (I6 ((a / 2 ^ g:Nat):Int)))):=
 cu.pure rfl ht fun _ _ η _ s w hs=>by
  refine ⟨I6 ((a / 2 ^ g:Nat):Int), ?_,rfl⟩
  have e:Op.shift .shr .i64 (a:Int) kk (g:Int)=pure (I6 ((a / 2 ^ g:Nat):Int)):=by
   rw [shift_shr_i64 (x:=(a:Int)) (y:=(g:Int)) (yk:=kk) (Int.natCast_nonneg g) ae,Int.toNat_natCast]
   simp
  simp [execOp,hs.gQ hx,hs.gQ hy,eqGuard,binOp,e]
theorem fo {xt yt:TypeId} {kk:IntKind} {g:Nat} (ht:Nat.blt t nt=true) (hx:S.op x=some (vv (I6 1))) (hy:S.op y=some (vv (.int kk (g:Int)))) (hg:g≤5):
  cu P nt ⟨some t, .binOp .shl xt x y yt,ty,ps,af,gd⟩ S (S.put t (vv (I6 ((2 ^ g:Nat):Int)))):=
 cu.pure rfl ht fun _ _ η _ s w hs=>by
  refine ⟨I6 ((2 ^ g:Nat):Int), ?_,rfl⟩
  have e:∀g:Nat,g≤5→Op.shift .shl .i64 1 kk (g:Int)=pure (I6 ((2 ^ g:Nat):Int)):=fun g hg=>by
   rw [shift_shl_i64 (x:=1) (y:=(g:Int)) (yk:=kk) (Int.natCast_nonneg g) ae,Int.toNat_natCast]
   match g,hg with
   | 0,_=>rfl
   | 1,_=>rfl
   | 2,_=>rfl
   | 3,_=>rfl
   | 4,_=>rfl
   | 5,_=>rfl
  have e:=e g hg
  have hw:IntKind.i64.wrap (2 ^ g)=2 ^ g:=by
   match g,hg with
   | 0,_=>rfl
   | 1,_=>rfl
   | 2,_=>rfl
   | 3,_=>rfl
   | 4,_=>rfl
   | 5,_=>rfl
  simp [execOp,hs.gQ hx,hs.gQ hy,eqGuard,binOp,e,hw]
theorem dX {src dst:TypeId} {kk k2:IntKind} {m:Int} (ht:Nat.blt t nt=true) (hx:S.op x=some (vv (.int kk m))) (hs1:(P.underlying src).isSome=true) (hd:P.underlying dst=some (.int k2)) (hw:k2.wrap m=m):
  cu P nt ⟨some t, .convert src dst x,ty,ps,af,gd⟩ S (S.put t (vv (.int k2 m))):=
 cu.pure rfl ht fun _ _ η _ s w hs=>by
  refine ⟨.int k2 m, ?_,rfl⟩
  obtain ⟨d,hd'⟩:=Option.isSome_iff_exists.mp hs1
  simp [execOp,hs.gQ hx,convert,run_underlying hd',run_underlying hd,Conv.intToInt,hw]
end
section
variable {P:Program} {w0:World} {ω0:ml} {nt:Nat} {S:St}
theorem vZ {w:World} {fn:Func} {tmps:Array Value} {r r' r'':ResultVar} {v v' v'':Value} (h:fn.results= #[r,r',r'']) (h1:(jV tmps r).run P w= .ok v w) (h2:(jV tmps r').run P w= .ok v' w) (h3:(jV tmps r'').run P w= .ok v'' w):(results fn tmps).run P w= .ok (.tuple #[v,v',v'']) w:=by
 rw [ll,h];simp [h1,h2,h3]
theorem kW {fn:Func} {e:Exit} {r r' r'':ResultVar} {b b' b'':A2} {outs:List (Nm×Ch)} {back:List (Nat×AV)} (he:e= .ret∨e= .normal) (hf:fn.results= #[r,r',r'']) (hr:tB P S r b) (hr':tB P S r' b') (hr'':tB P S r'' b'') (hc:qx S outs) (hb:qt S back):
  Fin w0 ω0 nt S e (bodyPost P fn (Left w0 ω0.own ω0.ph outs (.tup [b,b',b'']) back)):=by
 refine ⟨fun a w ⟨η,ω,hs⟩=> ?_⟩
 obtain ⟨u,h1,h2⟩:=hs.res hr
 obtain ⟨u',h1',h2'⟩:=hs.res hr'
 obtain ⟨u'',h1'',h2''⟩:=hs.res hr''
 have hd:Den η (.tup [b,b',b'']) (.tuple #[u,u',u'']):=⟨_,rfl,rfl,fun j c hj=>by
  match j,hj with
  | 0,hj=>simp at hj;subst hj;exact ⟨u,by simp,h2⟩
  | 1,hj=>simp at hj;subst hj;exact ⟨u',by simp,h2'⟩
  | 2,hj=>simp at hj;subst hj;exact ⟨u'',by simp,h2''⟩⟩
 have:a.defers= []∧∃v,(results fn a.tmps).run P w= .ok v w∧Left w0 ω0.own ω0.ph outs (.tup [b,b',b'']) back (.returned v) w:=⟨hs.dfr,_,vZ hf h1 h1' h1'',hs.left hc hb hd⟩
 rcases he with rfl | rfl<;>exact this
end
end Go.Proofs.YtekbhbcgoadciaaGreat
namespace Go.Proofs.YtekbhbcgoadciaaGreat
open Go.RowKit
section
variable {P:Program} {nt:Nat} {w0 w:World} {ω0:ml} {S S1:St} {Q:Exit→Act→World→Prop} {a:Act}
inductive Kj (P:Program) (nt:Nat) (ops:Array Oper) (o:Oper) (S1:St) (A:Add):Prop where
 | run (hg:o.guard=none) (h:cu P nt o S1 (S1.add A))
 | yes {j d:Nat} {want:Bool} (hg:o.guard=some (j,want)) (hj:(ops[j]?).bind (·.dst)=some d) (hb:S1.sl d=some (vv (.bool want))) (h:cu P nt o S1 (S1.add A))
 | no {j d:Nat} {want:Bool} (hg:o.guard=some (j,want)) (hj:(ops[j]?).bind (·.dst)=some d) (hb:S1.sl d=some (vv (.bool (!want)))) (ht:o.dst=some A.t) (hn:Nat.blt A.t nt=true) (ha:A.av=vv undef) (hx:A.news=none)
inductive gK (P:Program) (nt:Nat) (ops0:Array Oper) (S:St) (cls:List (List Nat)) (sk:List Nat):List Oper→List Add→List Add→Prop where
 | nil {done:List Add} :gK P nt ops0 S cls sk [] done done
 | skip {o:Oper} {rest:List Oper} {done all:List Add} (A:Add) (hs:bL sk done.length=true) (k:gK P nt ops0 S cls sk rest (A :: done) all):gK P nt ops0 S cls sk (o :: rest) done all
 | cons {o:Oper} {rest:List Oper} {done all:List Add} (A:Add)
   (h:∀S1,(S.gG (bL (cls.getD done.length [])) done).le S1→Kj P nt ops0 o S1 A) (k:gK P nt ops0 S cls sk rest (A :: done) all):gK P nt ops0 S cls sk (o :: rest) done all
theorem gK.spec {ops0:Array Oper} {cls:List (List Nat)} {sk:List Nat} {ops:List Oper} {done all:List Add} (h:gK P nt ops0 S cls sk ops done all):(∃r,all.reverse=done.reverse ++ r∧r.length=ops.length)∧∀(i:Nat) (o:Oper),ops[i]? =some o→bL sk (done.length + i)=false→
  ∃A,all.reverse[done.length + i]? =some A∧∀S1,(S.gG (bL (cls.getD (done.length + i) [])) (all.reverse.take (done.length + i)).reverse).le S1→Kj P nt ops0 o S1 A:=by
 induction h with
 | nil=>exact ⟨⟨[],by simp⟩,fun i o h=>by simp at h⟩
 | @skip o rest done all A hs k ih=>
  obtain ⟨⟨r,hr,hl⟩,h2⟩:=ih
  refine ⟨⟨A :: r,by rw [hr];simp,by simp [hl]⟩,fun i o' hi hsk=> ?_⟩
  cases i with
  | zero=>rw [Nat.add_zero,hs] at hsk;cases hsk
  | succ i=>
   have e:(A :: done).length + i=done.length + (i + 1):=by simp;omega
   rw [←e] at hsk ⊢
   exact h2 i o' (by simpa using hi) hsk
 | @cons o rest done all A h k ih=>
  obtain ⟨⟨r,hr,hl⟩,h2⟩:=ih
  refine ⟨⟨A :: r,by rw [hr];simp,by simp [hl]⟩,fun i o' hi hsk=> ?_⟩
  cases i with
  | zero=>
   simp at hi;subst hi
   refine ⟨A,by rw [hr];simp,fun S1 hS=>h S1 ?_⟩
   have:(all.reverse.take (done.length + 0)).reverse=done:=by rw [hr];simp
   rw [this] at hS
   exact hS
  | succ i=>
   have e:(A :: done).length + i=done.length + (i + 1):=by simp;omega
   rw [←e] at hsk ⊢
   exact h2 i o' (by simpa using hi) hsk
theorem zM {l:List Oper} {nA:Nat} {sk:List Nat} {cls:List (List Nat)} {ds nms:List Nat} {adds done:List Add} (hcl:EZ l.toArray nA sk cls) (hdr:gK P nt l.toArray (S.clear ds nms) cls sk (l.take nA) [] done) (hdn:done.reverse=adds) (ok:mj adds cls ds nms)
  (hk:Rest P w0 ω0 nt l.toArray Q (l.length - missing sk #[] nA) (fa nA sk l.length) ((S.clear ds nms).part (fun j=> !bL sk j) adds)):
  ∀(d:Nat) (L:Array Bool) (a:Act) (w:World),missing sk L nA=d→L.size=l.length→(∀j,L.getD j false=true→j < nA∧bL sk j=false)→(∀i,L.getD i false=true→∀j∈cls.getD i [],L.getD j false=true)→
   Sat w0 ω0 nt ((S.clear ds nms).part (fun j=>L.getD j false) adds) a w→wpAny P .any l.toArray Q (l.length - missing sk #[] nA + d) L a w:=by
 have hsz:nA≤l.length:=by have:=hcl.size;simpa using this
 obtain ⟨⟨r,hr,hrl⟩,hob⟩:=hdr.spec
 rw [hdn] at hr hob
 have hal:adds.length=nA:=by rw [hr];simp [hrl];omega
 have hfull:∀(L:Array Bool) (i:Nat),i∈Region.ready .any l.toArray L→(∀i,L.getD i false=true→∀j∈cls.getD i [],L.getD j false=true)→(∃o,l.toArray[i]? =some o∧L.getD i true=false)∧∀j∈cls.getD i [],L.getD j false=true:=by
  intro L i hi hclosed
  obtain ⟨h0,o,ho,he⟩:=mem_ready.1 hi
  refine ⟨⟨o,ho,h0⟩,fun j hj=> ?_⟩
  obtain ⟨e,hem,hb,hje⟩:=hcl.dep i o ho j hj
  have h1:=he e hem hb
  rcases hje with rfl | hje
  ·exact h1
  ·exact hclosed e.on h1 j hje
 intro d
 induction d with
 | zero=>
  intro L a w hm hs hsub hclosed hsat
  have hall:=ei hm
  have hL:L=fa nA sk l.length:=by
   apply Array.ext
   ·simp [hs,fa]
   ·intro j h1 h2
    have h3:L[j]? =some L[j]:=Array.getElem?_eq_getElem h1
    have h4:=mC (nA:=nA) (sk:=sk) (n:=l.length) (j:=j) ae
    rw [Array.getElem?_eq_getElem h2] at h4
    rw [Option.some.inj h4]
    cases hb:L[j] with
    | true=>
     have:=hsub j (by simp [h1,hb])
     simp [this.1,this.2]
    | false=>
     by_cases hj:j < nA
     ·cases hsk:bL sk j with
      | true=>simp
      | false=>
       have:=hall j hj hsk
       simp [h1,hb] at this
     ·simp [hj]
  refine hk.go a w ((St.le.wk (oA (ℓ1:=fun j=> !bL sk j) (ℓ2:=fun j=>L.getD j false) ok (fun _ _ h=>h) fun j A hj hsk=> ?_) fun _ _ h=>h).go _ _ _ a w hsat) |> fun h=>by rw [←hL] at h;exact h
  have hjl:j < adds.length:=(List.getElem?_eq_some_iff.1 hj).1
  exact hall j ae (by simpa using hsk)
 | succ d ih=>
  intro L a w hm hs hsub hclosed hsat
  refine ⟨fun hnil=> ?_,fun i hi=> ?_⟩
  ·exfalso
   obtain ⟨j,hj,hjs',hjf,hlo⟩:=fY (k:=nA) (by omega:missing sk L nA≠0)
   have hjl:j < l.length:=by omega
   have hjs:j < L.size:=by omega
   have:j∈Region.ready .any l.toArray L:=by
    refine mem_ready.2 ⟨?_,l[j],by simp [hjl],fun e he hb=> ?_⟩
    ·simp [hjs] at hjf ⊢
     exact hjf
    ·have h5:=hcl.less j l[j] (by simp [hjl]) hj hjs' e he hb
     exact hlo e.on h5.1 h5.2
   rw [hnil] at this;cases this
  ·obtain ⟨⟨o,ho,hi0⟩,hdep⟩:=hfull L i hi hclosed
   have hil:i < l.length:=by have:=(Array.getElem?_eq_some_iff.1 ho).1;simpa using this
   have his:i < L.size:=by omega
   have hif:L.getD i false=false:=by simp [his] at hi0 ⊢;exact hi0
   have hnl:¬(nA≤i∨bL sk i=true):=fun h=>by
    have:=eM (sk:=sk) (L:=L) (k:=nA) fun j hj hsk=>hdep j (hcl.late i o ho h j hj hsk)
    omega
   have hiA:i < nA:=by
    rcases Nat.lt_or_ge i nA with h | h
    ·exact h
    ·exact absurd (.inl h) hnl
   have hisk:bL sk i=false:=by
    cases hsk:bL sk i with
    | false=>rfl
    | true=>exact absurd (.inr hsk) hnl
   have hot:(l.take nA)[i]? =some o:=by rw [List.getElem?_take,if_pos hiA];simpa using ho
   obtain ⟨A,hA,hstp⟩:=hob i o hot (by simpa using hisk)
   simp only [List.length_nil,Nat.zero_add] at hA hstp
   have hle:((S.clear ds nms).gG (bL (cls.getD i [])) (adds.take i).reverse).le ((S.clear ds nms).part (fun j=>L.getD j false) adds):=g9 ok (fun j B hj=>by
     rw [List.reverse_reverse] at hj
     rw [List.getElem?_take] at hj;split at hj
     ·exact hj
     ·cases hj) fun j B _ hj=>hdep j (cH.1 hj)
   have cont:∀a' w',Sat w0 ω0 nt (((S.clear ds nms).part (fun j=>L.getD j false) adds).add A) a' w'→wpAny P .any l.toArray Q (l.length - missing sk #[] nA + d) (L.setIfInBounds i true) a' w':=fun a' w' hsat'=>by
    have hsat2:=(wz ok hA hif fun j hj hm'=>by have:=hclosed j hj i hm';rw [hif] at this;cases this).go _ _ _ a' w' hsat'
    have hnew:∀j,(L.setIfInBounds i true).getD j false=(Nat.beq j i || L.getD j false):=fun j=>by
     by_cases e:j=i
     ·subst e;simp [his]
     ·rw [getD_set_ne false (fun e'=>e e'.symm),dy e,Bool.false_or]
    refine ih (L.setIfInBounds i true) a' w' ?_ (by simp [hs]) (fun j hj=> ?_) (fun j hj k hk'=> ?_) ?_
    ·have:=iJ his hif hisk nA hiA;omega
    ·rw [hnew] at hj
     by_cases e:j=i
     ·rw [e];exact ⟨hiA,hisk⟩
     ·rw [dy e,Bool.false_or] at hj;exact hsub j hj
    ·rw [hnew] at hj ⊢
     by_cases e:j=i
     ·subst e;rw [hdep k hk'];simp
     ·rw [dy e,Bool.false_or] at hj;rw [hclosed j hj k hk'];simp
    ·have:(fun j=>(L.setIfInBounds i true).getD j false)=fun j=>(Nat.beq j i || L.getD j false):=funext hnew
     rw [this];exact hsat2
   have hy:∀ {j dd:Nat} {b:Bool},(l.toArray[j]?).bind (·.dst)=some dd→((S.clear ds nms).part (fun j=>L.getD j false) adds).sl dd=some (vv (.bool b))→yielded l.toArray a.tmps j=some b:=fun {j dd b} hj hb=>by
    obtain ⟨η,ω,hs⟩:=hsat
    obtain ⟨u,k1,k2⟩:=hs.slots dd _ hb
    have k2:u= .bool b:=k2
    subst k2
    unfold yielded
    cases hoj:l.toArray[j]? with
    | none=>rw [hoj] at hj;cases hj
    | some oj=>
     rw [hoj] at hj
     simp only [Option.bind_some] at hj
     simp [hj,k1]
   unfold wpOp
   simp only [ho]
   cases hstp _ hle with
   | run hg h=>
    rw [if_pos (by simp [Region.wanted,hg])]
    exact .inl (Oper.wp_mono (fun a' w' hsat'=>cont a' w' hsat') (h.go w0 ω0 a w Q hsat))
   | yes hg hj hb h=>
    rw [if_pos (by simp [Region.wanted,hg,hy hj hb])]
    exact .inl (Oper.wp_mono (fun a' w' hsat'=>cont a' w' hsat') (h.go w0 ω0 a w Q hsat))
   | @no j dd want hg hj hb ht hn ha hx=>
    rw [if_neg (by simp [Region.wanted,hg,hy hj hb])]
    refine cont _ _ ?_
    obtain ⟨η,ω,hs⟩:=hsat
    refine ⟨η,ω, ?_⟩
    have e:((S.clear ds nms).part (fun j=>L.getD j false) adds).add A=((S.clear ds nms).part (fun j=>L.getD j false) adds).put A.t (vv undef):=by unfold St.add;rw [hx,ha];rfl
    rw [e,ht]
    exact hs.fU (by simpa using hn) rfl
theorem jB {id:Nat} {l:List Oper} (nA:Nat) (sk:List Nat) (cls:List (List Nat)) (ds nms:List Nat) {done:List Add} (hm:P.follows .mixedOrders=true) (hcl:Gx l.toArray nA sk cls=true) (hdr:gK P nt l.toArray (S.clear ds nms) cls sk (l.take nA) [] done) (ok:uZ done.reverse cls ds nms=true)
  (hk:Rest P w0 ω0 nt l.toArray Q (l.length - missing sk #[] nA) (fa nA sk l.length) ((S.clear ds nms).gG (fun j=> !bL sk j) done)):fJ P w0 ω0 nt S (.region id l.toArray true) Q:=by
 have hc:=uv hcl
 have hsz:nA≤l.length:=by have:=hc.size;simpa using this
 have hk':Rest P w0 ω0 nt l.toArray Q (l.length - missing sk #[] nA) (fa nA sk l.length) ((S.clear ds nms).part (fun j=> !bL sk j) done.reverse):=
  ⟨fun a w hs=>hk.go a w ((St.le.wk (g9 (fk ok) (fun _ _ h=>h) fun _ _ _ h=>h) fun _ _ h=>h).go _ _ _ a w hs)⟩
 have hle:∀k,missing sk #[] k≤k:=fun k=>by
  induction k with
  | zero=>exact Nat.le_refl _
  | succ k ih=>simp only [missing];split<;>omega
 refine ⟨fun a w hs=>wp_region_any hm ?_⟩
 have hfin:=zM hc hdr rfl (fk ok) hk' (missing sk #[] nA) (Array.replicate l.length false) a { w with drawn:=w.drawn + 1 } ?_ (by simp) (fun j hj=> ?_) (fun i hi=> ?_) ?_
 ·have:=hle nA
  rw [show l.length - missing sk #[] nA + missing sk #[] nA=l.length by omega] at hfin
  simpa using hfin
 ·have:∀k,k≤l.length→missing sk (Array.replicate l.length false) k=missing sk #[] k:=fun k=>by
   induction k with
   | zero=>intro _;rfl
   | succ k ih=>
    intro hk
    simp only [missing]
    rw [ih ae]
    have:(Array.replicate l.length false).getD k false=false:=by simp [show k < l.length by omega]
    rw [this];rfl
  exact this nA hsz
 ·exfalso
  by_cases h:j < l.length
  ·simp [h] at hj
  ·simp [h] at hj
 ·exfalso
  by_cases h:i < l.length
  ·simp [h] at hi
  ·simp [h] at hi
 ·have h1:=(oI S ds nms).go _ _ _ a _ (oy hs)
  have hf:∀j,(Array.replicate l.length false).getD j false=false:=fun j=>by
   by_cases h:j < l.length<;>simp [h]
  refine (Wk.less (S:=S.clear ds nms) (S':=(S.clear ds nms).part (fun j=>(Array.replicate l.length false).getD j false) done.reverse) (fun t av h=> ?_) (fun x c h=> ?_) fun _ _ h=>h).go _ _ _ a _ h1
  ·have h:(match wI (fun j=>(Array.replicate l.length false).getD j false) 0 done.reverse t with | some av=>some av | none=>(S.clear ds nms).sl t)=some av:=h
   split at h
   ·rename_i av' h2
    obtain ⟨j,A,_,h3,_⟩:=gk h2
    rw [hf] at h3;cases h3
   ·exact h
  ·have h:(match wF (fun j=>(Array.replicate l.length false).getD j false) 0 done.reverse x with | some c=>some c | none=>(S.clear ds nms).ch x)=some c:=h
   split at h
   ·rename_i av' h2
    obtain ⟨j,A,_,h3,_⟩:=gq h2
    rw [hf] at h3;cases h3
   ·exact h
end
section
variable {P:Program} {nt:Nat} {S:St} {cls:List (List Nat)} {sk:List Nat} {o:Oper} {rest:List Oper} {done all:List Add} {ops0:Array Oper} {t:Nat} {ty:TypeId} {ps:String} {af:Array Edge} {gd:Option (Nat×Bool)} {x y:Operand}
theorem bT {t:Nat} {av:AV} (hg:o.guard=none) (h:∀S1,(S.gG (bL (cls.getD done.length [])) done).le S1→cu P nt o S1 (S1.put t av)) (k:gK P nt ops0 S cls sk rest (⟨t,av,none⟩ :: done) all):gK P nt ops0 S cls sk (o :: rest) done all:= .cons ⟨t,av,none⟩ (fun S1 hS=> .run hg (h S1 hS)) k
theorem cO {t j d:Nat} {want:Bool} {av:AV} (hg:o.guard=some (j,want)) (hj:(ops0[j]?).bind (·.dst)=some d) (hb:(S.gG (bL (cls.getD done.length [])) done).sl d=some (vv (.bool want))) (h:∀S1,(S.gG (bL (cls.getD done.length [])) done).le S1→cu P nt o S1 (S1.put t av)) (k:gK P nt ops0 S cls sk rest (⟨t,av,none⟩ :: done) all):gK P nt ops0 S cls sk (o :: rest) done all:= .cons ⟨t,av,none⟩ (fun S1 hS=> .yes hg hj (hS.sl _ _ hb) (h S1 hS)) k
theorem eX {t j d:Nat} {want:Bool} (hg:o.guard=some (j,want)) (hj:(ops0[j]?).bind (·.dst)=some d) (hb:(S.gG (bL (cls.getD done.length [])) done).sl d=some (vv (.bool (!want)))) (ht:o.dst=some t) (hn:Nat.blt t nt=true) (k:gK P nt ops0 S cls sk rest (⟨t,vv undef,none⟩ :: done) all):gK P nt ops0 S cls sk (o :: rest) done all:= .cons ⟨t,vv undef,none⟩ (fun S1 hS=> .no hg hj (hS.sl _ _ hb) ht hn rfl rfl) k
theorem jM {xt yt:TypeId} {b b':Bool} (hT:P.underlying xt=some .bool) (ht:Nat.blt t nt=true) (hx:S.op x=some (vv (.bool b))) (hy:S.op y=some (vv (.bool b'))):cu P nt ⟨some t, .binOp .neq xt x y yt,ty,ps,af,gd⟩ S (S.put t (vv (.bool (b != b')))):=
 cu.pure rfl ht fun _ _ η _ a w hs=>by
  refine ⟨.bool (b != b'), ?_,rfl⟩
  have e:∀w:World,(Op.equal xt (.bool b) (.bool b')).run P w= .ok (b == b') w:=fun w=>run_equal_bool w xt b b' hT
  simp [execOp,hs.gQ hx,hs.gQ hy,eqGuard,binOp,e,bne]
end
end Go.Proofs.YtekbhbcgoadciaaGreat
namespace Go.Proofs.YtekbhbcgoadciaaGreat
open Go.RowKit
section
variable {η:Env} {ω:bY} {w:World} {ins:List (Nm×Ch)}
theorem GK {x i:Nat} {own:Bool} {E F:Nat} {zss:List (List Int)} {v:Value} (hm:Mem η ω w (fun x=>lk x ins)) (hx:lk x ins=some ⟨own,E,1, .rows F (bV zss) []⟩) (hi:i < zss.length) (hv:c6 η (.esl x i 0 (bn zss i).length) v) (hn:(bn zss i).length≤17592186044416):
  ∃ao c,v= .slice ao (bn zss i).length c∧dC w ao (bn zss i).length (bn zss i):=by
 obtain ⟨h,h1,h2,h3⟩:=hm.1 x _ hx
 obtain ⟨ao,rfl,h4,_⟩:=hv.2 h h1
 have h3:lN own ω w (x,none) h E (bV zss).length (cI η ω w own x (.rows F (bV zss) [])):=h3
 obtain ⟨b',o',u',g1,g2,g3,g4⟩:=h3.get (j:=i) (by rw [cZ];exact hi)
 obtain ⟨k1,k2,k3⟩:=g4 (by simp) (aL (bn zss i)) (cf hi)
 rw [h4 rfl]
 refine ⟨_,_,rfl,rfl,hn,fun h0=> ?_⟩
 obtain ⟨b2,o2,u2,m1,_,_⟩:=k3.get (j:=0) (by rw [bc];exact h0)
 refine ⟨b2,o2,m1,fun j hj=> ?_⟩
 obtain ⟨b3,o3,u3,n1,n2,n3⟩:=k3.get (j:=j) (by rw [bc];exact hj)
 rw [m1] at n1;injection n1 with n1;injection n1 with n1 n1';subst n1 n1'
 rw [bl hj] at n3
 rw [n2,←n3]
theorem Ix {x i m:Nat} {own:Bool} {E kk F:Nat} {cs:List kX} {zs:List Int} {v:Value} (hm:Mem η ω w (fun x=>lk x ins)) (hx:lk x ins=some ⟨own,E,kk, .mix cs⟩) (hi:cs[i]? =some (.r F 1 m (aL zs))) (hv:c6 η (.esl x i 0 m) v) (hn:zs.length≤17592186044416):
  ∃ao c,v= .slice ao zs.length c∧dC w ao zs.length zs:=by
 obtain ⟨h,h1,h2,h3⟩:=hm.1 x _ hx
 obtain ⟨ao,rfl,h4,_⟩:=hv.2 h h1
 have h3:lN own ω w (x,none) h E cs.length (cI η ω w own x (.mix cs)):=h3
 obtain ⟨b',o',u',g1,g2,g3,g4⟩:=h3.get (j:=i) (List.getElem?_eq_some_iff.1 hi).1
 obtain ⟨k0,k1,k2,k3⟩:=g4 _ hi
 have hm':m=zs.length:=by rw [bc,Nat.mul_one] at k0;exact k0.symm
 subst hm'
 rw [h4 rfl]
 refine ⟨_,_,rfl,rfl,hn,fun h0=> ?_⟩
 obtain ⟨b2,o2,u2,m1,_,_⟩:=k3.get (j:=0) (by rw [bc];exact h0)
 refine ⟨b2,o2,m1,fun j hj=> ?_⟩
 obtain ⟨b3,o3,u3,n1,n2,n3⟩:=k3.get (j:=j) (by rw [bc];exact hj)
 rw [m1] at n1;injection n1 with n1;injection n1 with n1 n1';subst n1 n1'
 rw [bl hj] at n3
 rw [n2,←n3]
end
section
variable {P:Program} {nt:Nat} {S:St} {t:Nat} {ty:TypeId} {ps:String} {af:Array Edge} {gd:Option (Nat×Bool)} {x y:Operand}
theorem xS {ts:Array TypeId} {m n:Nat} (ht:Nat.blt t nt=true) (hx:S.op x=some (vv (I6 (m:Int)))) (hy:S.op y=some (vv (I6 (n:Int)))):
  cu P nt ⟨some t, .call { callee:= .builtin .min,args:= #[x,y],argTypes:=ts },ty,ps,af,gd⟩ S (S.put t (vv (I6 ((min m n:Nat):Int)))):=by
 have:=Fw (P:=P) (nt:=nt) (ty:=ty) (ps:=ps) (af:=af) (gd:=gd) (ts:=ts) ht hx hy
 rwa [show (if (n:Int) < m then (n:Int) else m)=((min m n:Nat):Int) by split<;>omega] at this
theorem pk {ts:Array TypeId} {m n:Nat} (ht:Nat.blt t nt=true) (hx:S.op x=some (vv (I6 (m:Int)))) (hy:S.op y=some (vv (I6 (n:Int)))):
  cu P nt ⟨some t, .call { callee:= .builtin .max,args:= #[x,y],argTypes:=ts },ty,ps,af,gd⟩ S (S.put t (vv (I6 ((max m n:Nat):Int)))):=by
 have:=AN (P:=P) (nt:=nt) (ty:=ty) (ps:=ps) (af:=af) (gd:=gd) (ts:=ts) ht hx hy
 rwa [show (if (n:Int) > m then (n:Int) else m)=((max m n:Nat):Int) by split<;>omega] at this
end
end Go.Proofs.YtekbhbcgoadciaaGreat
namespace Go.Proofs.YtekbhbcgoadciaaGreat
open Go.RowKit
abbrev Et (l:List Int):Ch:=⟨true,169,2, .bR (aL l)⟩
theorem DX {pre:List Int} {o:Nat} (h:pre.length=2 * o) (q:List (Int×Int)):(o + q.length) * 2=(aL (pre ++ eZ q)).length:=by
 rw [bc,List.length_append,h,uk];omega
theorem Hw {pre:List Int} {o:Nat} (h:pre.length=2 * o) (p:Int×Int) (q:List (Int×Int)):(aL (pre ++ eZ (p :: q)))[(o + 0) * 2 + 0 * 1]? =some (I6 p.1):=by
 apply vT
 rw [List.getElem?_append_right ae,show (o + 0) * 2 + 0 * 1 - pre.length=0 by omega];rfl
theorem Hn {pre:List Int} {o:Nat} (h:pre.length=2 * o) (p:Int×Int) (q:List (Int×Int)):(aL (pre ++ eZ (p :: q)))[(o + 0) * 2 + 1 * 1]? =some (I6 p.2):=by
 apply vT
 rw [List.getElem?_append_right ae,show (o + 0) * 2 + 1 * 1 - pre.length=1 by omega];rfl
theorem wY {ng:Nat} {less:List Int} {p:Int×Int} (hn:less.length≤2000) (hng:ng≤1000):fuel ng less [p]≤2100000:=by
 unfold fuel
 have h1:alive less≤less.length:=by unfold alive;exact Nat.le_trans (List.length_filter_le _ _) (by simp)
 have h2:alive less * (ng + 1)≤2000 * 1001:=Nat.mul_le_mul ae ae
 simp;omega
theorem IF (pre:List Int) (q r:List (Int×Int)) (x y:Int):aL (pre ++ eZ (q ++ r)) ++ ((aL [x,y]).drop (0 * 2)).take (1 * 2)=aL (pre ++ eZ (q ++ (r ++ [(x,y)]))):=by
 simp [aL,eZ]
theorem Ik {pre:List Int} {o:Nat} (h:pre.length=2 * o) (q r:List (Int×Int)) (x y:Int):(aL (pre ++ eZ (q ++ r))).drop (o * 2) ++ ((aL [x,y]).drop (0 * 2)).take (1 * 2)=aL ([] ++ eZ (q ++ (r ++ [(x,y)]))):=by
 have h1:(aL (pre ++ eZ (q ++ r))).drop (o * 2)=aL (eZ (q ++ r)):=by
  rw [show aL (pre ++ eZ (q ++ r))=aL pre ++ aL (eZ (q ++ r)) by simp [aL],List.drop_append_of_le_length (by rw [bc];omega),List.drop_of_length_le (by rw [bc];omega),List.nil_append]
 rw [h1]
 simp [aL,eZ]
theorem oG (ng n:Nat) (im:List (List Int)) (less:List Int) (c d:Nat) (b:Bool) (hnn:less.length=n) (hw:WF ng im less) (hc:c < less.length) (hd:d < less.length) (hn:less.length≤2000) (hng:ng≤1000):
  FC Tryz.prog 149 [(1010,om n n b),(1000,cT im),(1001,bG less)] [o1 (.ptr 1010 0),vv (I6 c),vv (I6 d)] [(1010,om n n b),(1000,cT (ident ng im less [((c:Int),(d:Int))]).1),(1001,bG (ident ng im less [((c:Int),(d:Int))]).2)] (.tup []) [(0,o1 (.ptr 1010 0))]:=by
 refine bj (nt:=93) Tryz.func149 rfl rfl (by simp) fun w0 ω0=> ?_
 generalize hR:ident ng im less [((c:Int),(d:Int))]=R
 (refine ak (ah (aa rfl (aj rfl rfl) (aa rfl (aj rfl rfl) ?_)));apply aa rfl;(first | exact lr rfl rfl rfl ab | exact oK (E:=169) rfl ab rfl);apply aa rfl;(first | exact lr rfl rfl rfl ab | exact oK (E:=169) rfl ab rfl);refine aa rfl (ai rfl rfl) (ar (an (aB ?_))))
 have hB:=wY (p:=((c:Int),(d:Int))) hn hng
 have hq0:nj less.length [((c:Int),(d:Int))]:=fun p hp=>by simp at hp;subst hp;exact ⟨ae,ae⟩
 have hnm:im.length=n:=hw.len.trans hnn
 refine bz (fun j:List (List Int)×List Int×List (Int×Int)×List Int×Nat=>St.of [(0,o1 (.ptr 1010 0)),(6,o1 (.sl 15 j.2.2.2.2 j.2.2.1.length))]
   [(1010,om n n b),(1000,cT j.1),(1001,bG j.2.1),(15,Et (j.2.2.2.1 ++ eZ j.2.2.1))] [(0,o1 (.ptr 1010 0))])
  (fun j=>WF ng j.1 j.2.1∧j.2.1.length=n∧nj n j.2.2.1∧fuel ng j.2.1 j.2.2.1≤2100000∧ident ng j.1 j.2.1 j.2.2.1=R∧j.2.2.2.1.length=2 * j.2.2.2.2)
  (fun j=>fuel ng j.2.1 j.2.2.1) (im,less, [((c:Int),(d:Int))], [],0) ⟨hw,hnn,hnn ▸ hq0,hB,hR,rfl⟩ (Wk.of ⟨rfl,rfl,ag⟩ ⟨rfl,rfl,rfl,rfl,ag⟩ ⟨rfl,ag⟩) ?_
 rintro ⟨im1,less1,qq,pre,o⟩ ⟨hw1,hn1,hq,hb,hr,hpre⟩
 dsimp only at hw1 hn1 hq hb hr hpre ⊢
 have hm1:=hw1.len
 (refine ak (ak (ah (aa rfl (aj rfl rfl) (aa rfl (bw rfl rfl rfl ab) ?_))));refine aa rfl (aG rfl rfl rfl rfl) (ar (an ?_)))
 refine ax rfl (fun hlt=> ?_) (fun hlt=> ?_)
 ·obtain ⟨p,q,rfl⟩:∃p q,qq=p :: q:=by
   cases qq with
   | nil=>simp at hlt
   | cons p q=>exact ⟨p,q,rfl⟩
  have hpp:=hq p (by simp)
  have hqn:nj n q:=fun x hx=>hq x (by simp [hx])
  have g1:=Hw hpre p q
  have g2:=Hn hpre p q
  have gl:(o + (p :: q).length) * 2≤(aL (pre ++ eZ (p :: q))).length:=Nat.le_of_eq (DX hpre (p :: q))
  have hF1:FC Tryz.prog 151 [(1010,D4 n n b),(1000,jg im1),(1001,oW less1)] [o1 (.ptr 1010 0),vv (I6 p.1)] [] (vv (I6 (root less1 p.1.toNat))) []:=by
   have:=rW im1 less1 n n p.1.toNat b hn1 hw1.down ae
   rwa [Int.toNat_of_nonneg hpp.1.1] at this
  have hF2:FC Tryz.prog 151 [(1010,D4 n n b),(1000,jg im1),(1001,oW less1)] [o1 (.ptr 1010 0),vv (I6 p.2)] [] (vv (I6 (root less1 p.2.toNat))) []:=by
   have:=rW im1 less1 n n p.2.toNat b hn1 hw1.down ae
   rwa [Int.toNat_of_nonneg hpp.2.1] at this
  (refine aE ?_;refine an ?_;refine ak ?_;refine aB ?_;refine ak ?_)
  apply eE 12 [] [[], [], [1], [1,2], [1,2,3], [0,1,2,3,4], [], [], [7], [7,8], [7,8,9], [0,1,2,3,4,5,6,7,8,9,10], [0,1,2,3,4,5,6,7,8,9,10,11], [0,1,2,3,4,5,6,7,8,9,10,11,12]] [21,22,23,24,25,26,27,28,29,30,31,32] [] (by kernel_rfl) (by kernel_rfl)
  ·(apply aK rfl;(intro S1 hS;exact aj rfl (hS.op rfl));apply aK rfl;(intro S1 hS;exact aj rfl (hS.op rfl));(apply aK rfl;(focus (intro S1 hS;first | exact dh (k:=2) (j:=0) rfl (hS.op rfl) (hS.op rfl) (hS.ch _ _ rfl) rfl ab rfl (by simp) gl ae | exact dx (k:=1) (len:=2) (j:=0) rfl (hS.op rfl) (hS.op rfl) (hS.ch _ _ rfl) ab rfl ae | exact dx (k:=1) (len:=2) (j:=1) rfl (hS.op rfl) (hS.op rfl) (hS.ch _ _ rfl) ab rfl ae | (apply au 151;first | exact aw hF1 ab rfl (eu hS rfl) ⟨rfl,rfl,ag⟩ (dq hS ⟨⟨_,rfl, .inr rfl⟩,⟨_,rfl, .inr rfl⟩,⟨_,rfl, .inr rfl⟩,ag⟩) rfl rfl | exact aw hF2 ab rfl (eu hS rfl) ⟨rfl,rfl,ag⟩ (dq hS ⟨⟨_,rfl, .inr rfl⟩,⟨_,rfl, .inr rfl⟩,⟨_,rfl, .inr rfl⟩,ag⟩) rfl rfl))));(apply aK rfl;(focus (intro S1 hS;first | exact dh (k:=2) (j:=0) rfl (hS.op rfl) (hS.op rfl) (hS.ch _ _ rfl) rfl ab rfl (by simp) gl ae | exact dx (k:=1) (len:=2) (j:=0) rfl (hS.op rfl) (hS.op rfl) (hS.ch _ _ rfl) ab rfl ae | exact dx (k:=1) (len:=2) (j:=1) rfl (hS.op rfl) (hS.op rfl) (hS.ch _ _ rfl) ab rfl ae | (apply au 151;first | exact aw hF1 ab rfl (eu hS rfl) ⟨rfl,rfl,ag⟩ (dq hS ⟨⟨_,rfl, .inr rfl⟩,⟨_,rfl, .inr rfl⟩,⟨_,rfl, .inr rfl⟩,ag⟩) rfl rfl | exact aw hF2 ab rfl (eu hS rfl) ⟨rfl,rfl,ag⟩ (dq hS ⟨⟨_,rfl, .inr rfl⟩,⟨_,rfl, .inr rfl⟩,⟨_,rfl, .inr rfl⟩,ag⟩) rfl rfl))));apply aK rfl;(intro S1 hS;exact bf rfl ab (hS.op rfl) (hS.ch _ _ rfl) rfl aQ);(apply aK rfl;(focus (intro S1 hS;first | exact dh (k:=2) (j:=0) rfl (hS.op rfl) (hS.op rfl) (hS.ch _ _ rfl) rfl ab rfl (by simp) gl ae | exact dx (k:=1) (len:=2) (j:=0) rfl (hS.op rfl) (hS.op rfl) (hS.ch _ _ rfl) ab rfl ae | exact dx (k:=1) (len:=2) (j:=1) rfl (hS.op rfl) (hS.op rfl) (hS.ch _ _ rfl) ab rfl ae | (apply au 151;first | exact aw hF1 ab rfl (eu hS rfl) ⟨rfl,rfl,ag⟩ (dq hS ⟨⟨_,rfl, .inr rfl⟩,⟨_,rfl, .inr rfl⟩,⟨_,rfl, .inr rfl⟩,ag⟩) rfl rfl | exact aw hF2 ab rfl (eu hS rfl) ⟨rfl,rfl,ag⟩ (dq hS ⟨⟨_,rfl, .inr rfl⟩,⟨_,rfl, .inr rfl⟩,⟨_,rfl, .inr rfl⟩,ag⟩) rfl rfl))));apply aK rfl;(intro S1 hS;exact aj rfl (hS.op rfl));apply aK rfl;(intro S1 hS;exact aj rfl (hS.op rfl));(apply aK rfl;(focus (intro S1 hS;first | exact dh (k:=2) (j:=0) rfl (hS.op rfl) (hS.op rfl) (hS.ch _ _ rfl) rfl ab rfl (by simp) gl ae | exact dx (k:=1) (len:=2) (j:=0) rfl (hS.op rfl) (hS.op rfl) (hS.ch _ _ rfl) ab rfl ae | exact dx (k:=1) (len:=2) (j:=1) rfl (hS.op rfl) (hS.op rfl) (hS.ch _ _ rfl) ab rfl ae | (apply au 151;first | exact aw hF1 ab rfl (eu hS rfl) ⟨rfl,rfl,ag⟩ (dq hS ⟨⟨_,rfl, .inr rfl⟩,⟨_,rfl, .inr rfl⟩,⟨_,rfl, .inr rfl⟩,ag⟩) rfl rfl | exact aw hF2 ab rfl (eu hS rfl) ⟨rfl,rfl,ag⟩ (dq hS ⟨⟨_,rfl, .inr rfl⟩,⟨_,rfl, .inr rfl⟩,⟨_,rfl, .inr rfl⟩,ag⟩) rfl rfl))));(apply aK rfl;(focus (intro S1 hS;first | exact dh (k:=2) (j:=0) rfl (hS.op rfl) (hS.op rfl) (hS.ch _ _ rfl) rfl ab rfl (by simp) gl ae | exact dx (k:=1) (len:=2) (j:=0) rfl (hS.op rfl) (hS.op rfl) (hS.ch _ _ rfl) ab rfl ae | exact dx (k:=1) (len:=2) (j:=1) rfl (hS.op rfl) (hS.op rfl) (hS.ch _ _ rfl) ab rfl ae | (apply au 151;first | exact aw hF1 ab rfl (eu hS rfl) ⟨rfl,rfl,ag⟩ (dq hS ⟨⟨_,rfl, .inr rfl⟩,⟨_,rfl, .inr rfl⟩,⟨_,rfl, .inr rfl⟩,ag⟩) rfl rfl | exact aw hF2 ab rfl (eu hS rfl) ⟨rfl,rfl,ag⟩ (dq hS ⟨⟨_,rfl, .inr rfl⟩,⟨_,rfl, .inr rfl⟩,⟨_,rfl, .inr rfl⟩,ag⟩) rfl rfl))));apply aK rfl;(intro S1 hS;exact bf rfl ab (hS.op rfl) (hS.ch _ _ rfl) rfl aQ);(apply aK rfl;(focus (intro S1 hS;first | exact dh (k:=2) (j:=0) rfl (hS.op rfl) (hS.op rfl) (hS.ch _ _ rfl) rfl ab rfl (by simp) gl ae | exact dx (k:=1) (len:=2) (j:=0) rfl (hS.op rfl) (hS.op rfl) (hS.ch _ _ rfl) ab rfl ae | exact dx (k:=1) (len:=2) (j:=1) rfl (hS.op rfl) (hS.op rfl) (hS.ch _ _ rfl) ab rfl ae | (apply au 151;first | exact aw hF1 ab rfl (eu hS rfl) ⟨rfl,rfl,ag⟩ (dq hS ⟨⟨_,rfl, .inr rfl⟩,⟨_,rfl, .inr rfl⟩,⟨_,rfl, .inr rfl⟩,ag⟩) rfl rfl | exact aw hF2 ab rfl (eu hS rfl) ⟨rfl,rfl,ag⟩ (dq hS ⟨⟨_,rfl, .inr rfl⟩,⟨_,rfl, .inr rfl⟩,⟨_,rfl, .inr rfl⟩,ag⟩) rfl rfl))));exact ft.nil)
  ·rfl
  ((apply aF 12 rfl ab rfl rfl;exact ai rfl rfl);(apply aF 13 rfl ab rfl rfl;exact ai rfl rfl);(refine bh ab ?_;skip))
  have hr1:=de hw1.down (c:=p.1.toNat) ae
  have hr2:=de hw1.down (c:=p.2.toNat) ae
  (refine an (ak (ak (ah (aa rfl (aj rfl rfl) (aa rfl (aj rfl rfl) (aa rfl (aG rfl rfl rfl rfl) (ar (an ?_)))))))))
  refine ax rfl (fun he=> ?_) (fun he=> ?_)
  ·have he':root less1 p.1.toNat=root less1 p.2.toNat:=by have:=he;simp at this;omega
   have hfu:fuel ng less1 (p :: q)=fuel ng less1 q + 1:=by unfold fuel;simp;omega
   (refine a7 (aA (aT (an (ah (aa rfl (aj rfl rfl) ?_)))));apply aa rfl;(exact kT (k:=2) (l:=1) rfl rfl rfl rfl ab ae (eN rfl rfl) dN (by simp) (Nat.le_refl _) gl);refine aa rfl (ai rfl rfl) (ar ?_))
   exact aW (im1,less1,q,pre ++ [p.1,p.2],o + 1) ⟨hw1,hn1,hqn,by show fuel ng less1 q≤_;omega,by rw [←tn hw1 (hn1 ▸ hq) he'];exact hr,by simp;omega⟩ (by show fuel ng less1 q < fuel ng less1 (p :: q);omega) (Wk.of ⟨rfl,rfl,ag⟩ ⟨rfl,rfl,rfl,congrArg (fun l=>some (Et l)) (show pre ++ eZ (p :: q)=(pre ++ [p.1,p.2]) ++ eZ q by simp [eZ]),ag⟩ ⟨rfl,ag⟩)
  ·have he':root less1 p.1.toNat≠root less1 p.2.toNat:=by have:=he;simp at this;omega
   obtain ⟨hm1,hm2,hm3,hm4⟩:=ke hw1 (hn1 ▸ hq) he'
   generalize hcc:root less1 p.1.toNat=cc at *
   generalize hdd:root less1 p.2.toNat=dd at *
   unfold gv at hm1 hm2 hm3 hm4
   have hhl:max cc dd < less1.length:=by omega
   have him:max cc dd < im1.length:=by omega
   have hrw:(bn im1 (max cc dd)).length=ng:=hw1.row _ him
   (refine aE (an (ak (ah (aa rfl (aj rfl rfl) (aa rfl (aj rfl rfl) ?_)))));apply aa rfl;(first | exact xS rfl rfl rfl | exact pk rfl rfl rfl);refine aa rfl (aj rfl rfl) (aa rfl (aj rfl rfl) ?_);apply aa rfl;(first | exact xS rfl rfl rfl | exact pk rfl rfl rfl);refine aa rfl (ai rfl rfl) (aa rfl (ai rfl rfl) (ar (an (ak (ah (aa rfl (aj rfl rfl) (aa rfl (bC rfl rfl rfl) ?_)))))));apply aa rfl;(exact aI (d:=1) rfl rfl rfl ab);apply aa rfl;exact aZ rfl ab rfl rfl rfl rfl;refine aa rfl (aj rfl rfl) (aa rfl (aj rfl rfl) ?_);apply aa rfl;exact aR rfl rfl rfl rfl rfl ab a9 aJ a8;apply aa rfl;exact dW rfl rfl rfl rfl rfl aJ ab;refine ar (an (ak (ah (aa rfl (aj rfl rfl) (aa rfl (bC rfl rfl rfl) ?_)))));apply aa rfl;(exact aI (d:=0) rfl rfl rfl ab);apply aa rfl;exact aZ rfl ab rfl rfl rfl rfl;apply aa rfl;exact aj rfl rfl;apply aa rfl;exact aR rfl rfl rfl rfl rfl ab a9 aJ a8;apply aa rfl;exact bF rfl ab rfl rfl rfl aQ c8;apply aa rfl;exact bw rfl rfl rfl ab;refine aa rfl (aj rfl rfl) (ar (an (aB ?_))))
   have hll:min cc dd < max cc dd∧max cc dd < n:=by omega
   generalize min cc dd=lo at *
   generalize max cc dd=hi at *
   have hfb:(p :: q).length≤2100000:=by unfold fuel at hb;omega
   clear g1 g2 gl hF1 hF2
   refine bz (fun j:Nat×List Int×Nat=>St.of [(0,o1 (.ptr 1010 0)),(6,o1 (.sl 15 j.2.2 ((p :: q) ++ (bH lo hi (im1, []) j.1).2).length)),(7,vv (I6 lo)),(8,vv (I6 hi)),(55,o1 (.esl 1000 hi 0 ng)),(56,vv (I6 ng)),(57,vv (I6 j.1))] [(1010,om n n b),(1000,cT (bH lo hi (im1, []) j.1).1),(1001,bG (less1.set hi (lo:Int))),(15,Et (j.2.1 ++ eZ ((p :: q) ++ (bH lo hi (im1, []) j.1).2)))] [(0,o1 (.ptr 1010 0))]) (fun j=>j.1≤ng∧j.2.1.length=2 * j.2.2) (fun j=>ng - j.1) (0,pre,o) ⟨Nat.zero_le _,hpre⟩ (Wk.of ⟨rfl,congrArg (fun l:List (Int×Int)=>some (o1 (.sl 15 o l.length))) (List.append_nil (p :: q)).symm,rfl,rfl,by rw [←hrw];rfl,by rw [←hrw];rfl,rfl,ag⟩ ⟨rfl,rfl,rfl,congrArg (fun l:List (Int×Int)=>some (Et (pre ++ eZ l))) (List.append_nil (p :: q)).symm,ag⟩ ⟨rfl,ag⟩) ?_
   clear hpre
   rintro ⟨g,pre2,o2⟩ ⟨hg,hpre⟩
   dsimp only at hg hpre ⊢
   obtain ⟨M,N,hMN⟩:∃M N,bH lo hi (im1, []) g=(M,N):=⟨_,_,rfl⟩
   have hAq:=j4 lo hi im1 q g
   obtain ⟨k1,k2,k3,k4⟩:=eP hw1 (lo:=lo) (hi:=hi) (q:= []) ae ae (fun x hx=>by simp at hx) g hg
   rw [hMN] at hAq k1 k2 k3 k4
   dsimp only at hAq k1 k2 k3 k4
   rw [hMN]
   dsimp only
   have hMl:M.length=n:=k1.len.trans hn1
   have hrow:=k1.row hi ae
   have hrowl:=k1.row lo ae
   have hNl:((p :: q) ++ N).length≤2200000:=by rw [List.length_append];simp at k3 hfb ⊢;omega
   (refine ak (ah (aa rfl (aG rfl rfl rfl rfl) (ar (an (ak ?_))))))
   refine bK rfl (fun hgl=> ?_) (fun hgl=> ?_)
   ·have hg':g < ng:=by omega
    have e1:=k1.bZ hi g ae hg'
    have e2:=k1.bZ lo g ae hg'
    (refine aE (an (ak (aB (ak (ah (aa rfl (aj rfl rfl) ?_))))));apply aa rfl;exact bd rfl rfl rfl rfl rfl ab aQ a9 aJ a8;apply aa rfl;exact a5 rfl ab rfl rfl rfl aQ aQ;refine aa rfl (ai rfl rfl) (aa rfl (ai rfl rfl) (ar (an (ak (ak (ah (aa rfl (aj rfl rfl) (aa rfl (aG rfl rfl rfl rfl) (ar (an ?_)))))))))))
    refine bK rfl (fun he=> ?_) (fun he=> ?_)
    ·have he:bZ M hi g < 0:=he
     have hstep:bH lo hi (im1, []) (g + 1)=(M,N):=by rw [bH,hMN];exact if_pos he
     (refine a7 (aA (aT (an (ah ?_))));apply aa rfl;exact aP rfl rfl rfl bA;refine aa rfl (aj rfl rfl) (ar ?_))
     exact aW (g + 1,pre2,o2) ⟨hg',hpre⟩ (by show ng - (g + 1) < ng - g;omega) (Wk.of (by rw [hstep];exact ⟨rfl,rfl,rfl,rfl,rfl,rfl,rfl,ag⟩) (by rw [hstep];exact ⟨rfl,rfl,rfl,rfl,ag⟩) ⟨rfl,ag⟩)
    ·have he:¬bZ M hi g < 0:=he
     (refine aE (an (ak (ah (aa rfl (aj rfl rfl) (aa rfl (bC rfl rfl rfl) ?_)))));apply aa rfl;(exact aI (d:=0) rfl rfl rfl ab);apply aa rfl;exact aZ rfl ab rfl rfl rfl rfl;apply aa rfl;exact aj rfl rfl;apply aa rfl;exact aR rfl rfl rfl rfl rfl ab a9 aJ a8;apply aa rfl;exact bF rfl ab rfl rfl rfl aQ c8;apply aa rfl;exact aj rfl rfl;apply aa rfl;exact bd rfl rfl rfl rfl rfl ab aQ a9 aJ a8;apply aa rfl;exact a5 rfl ab rfl rfl rfl aQ aQ;refine aa rfl (ai rfl rfl) (ar (an (ak (ah (aa rfl (aj rfl rfl) (aa rfl (aG rfl rfl rfl rfl) (ar (an ?_)))))))))
     refine bK rfl (fun hf=> ?_) (fun hf=> ?_)
     ·have hf:bZ M lo g≥0:=hf
      have hstep:bH lo hi (im1, []) (g + 1)=(M,N ++ [(bZ M hi g,bZ M lo g)]):=by rw [bH,hMN];exact (if_neg he).trans (if_pos hf)
      have hln:(o2 + ((p :: q) ++ N).length) * 2=(aL (pre2 ++ eZ ((p :: q) ++ N))).length:=DX hpre _
      (refine ah (aa rfl (aj rfl rfl) (aa rfl (aj rfl rfl) (aa rfl (aj rfl rfl) ?_)));apply aa rfl;(first | exact lr rfl rfl rfl ab | exact oK (t:=80) (E:=169) rfl ab rfl);apply aa rfl;(first | exact lr rfl rfl rfl ab | exact oK (t:=80) (E:=169) rfl ab rfl))
      refine Ae rfl (lx (k:=2) (m:=1) (E:=169) rfl ab rfl rfl rfl hln rfl (eR (k:=2) rfl rfl rfl rfl (Nat.le_refl _)) ae (by intro v hv;simp [aL] at hv;rcases hv with rfl | rfl<;>rfl) ae) ?_ ?_
      ·(refine aa rfl (ai rfl rfl) (ar (aM (an (ah ?_))));apply aa rfl;exact aP rfl rfl rfl bA;refine aa rfl (aj rfl rfl) (ar ?_))
       exact aW (g + 1, [],0) ⟨hg',rfl⟩ (by show ng - (g + 1) < ng - g;omega) (Wk.of (by rw [hstep];exact ⟨rfl,congrArg (fun x=>some (o1 (.sl 15 0 x))) (by simp;omega),rfl,rfl,rfl,rfl,rfl,ag⟩) (by rw [hstep];exact ⟨rfl,rfl,rfl,congrArg (fun l=>some (⟨true,169,2, .bR l⟩:Ch)) (Ik hpre (p :: q) N (bZ M hi g) (bZ M lo g)),ag⟩) ⟨rfl,ag⟩)
      ·(refine aa rfl (ai rfl rfl) (ar (aM (an (ah ?_))));apply aa rfl;exact aP rfl rfl rfl bA;refine aa rfl (aj rfl rfl) (ar ?_))
       exact aW (g + 1,pre2,o2) ⟨hg',hpre⟩ (by show ng - (g + 1) < ng - g;omega) (Wk.of (by rw [hstep];exact ⟨rfl,congrArg (fun x=>some (o1 (.sl 15 o2 x))) (by simp;omega),rfl,rfl,rfl,rfl,rfl,ag⟩) (by rw [hstep];exact ⟨rfl,rfl,rfl,congrArg (fun l=>some (⟨true,169,2, .bR l⟩:Ch)) (IF pre2 (p :: q) N (bZ M hi g) (bZ M lo g)),ag⟩) ⟨rfl,ag⟩)
     ·have hf:¬bZ M lo g≥0:=hf
      have hstep:bH lo hi (im1, []) (g + 1)=(eh M lo g (bZ M hi g),N):=by rw [bH,hMN];exact (if_neg he).trans (if_neg hf)
      (refine ah (aa rfl (aj rfl rfl) (aa rfl (bC rfl rfl rfl) ?_));apply aa rfl;(exact aI (d:=0) rfl rfl rfl ab);apply aa rfl;exact aZ rfl ab rfl rfl rfl rfl;apply aa rfl;exact aj rfl rfl;apply aa rfl;exact aR rfl rfl rfl rfl rfl ab a9 aJ a8;apply aa rfl;exact bF rfl ab rfl rfl rfl aQ c8;refine aa rfl (aj rfl rfl) (aa rfl (aj rfl rfl) ?_);apply aa rfl;exact bd rfl rfl rfl rfl rfl ab aQ a9 aJ a8;apply aa rfl;exact cz rfl rfl rfl rfl rfl aJ aJ ab;refine ar (aM (an (ah ?_)));apply aa rfl;exact aP rfl rfl rfl bA;refine aa rfl (aj rfl rfl) (ar ?_))
      exact aW (g + 1,pre2,o2) ⟨hg',hpre⟩ (by show ng - (g + 1) < ng - g;omega) (Wk.of (by rw [hstep];exact ⟨rfl,rfl,rfl,rfl,rfl,rfl,rfl,ag⟩) (by rw [hstep];exact ⟨rfl,rfl,rfl,rfl,ag⟩) ⟨rfl,ag⟩)
   ·obtain rfl:g=ng:=by omega
    rw [hAq] at hm1 hm2 hm3 hm4
    dsimp only at hm1 hm2 hm3 hm4
    have gl:(o2 + ((p :: q) ++ N).length) * 2≤(aL (pre2 ++ eZ ((p :: q) ++ N))).length:=Nat.le_of_eq (DX hpre _)
    (refine a7 (aA (aA (aT (aM (an (ah (aa rfl (aj rfl rfl) ?_)))))));apply aa rfl;(exact kT (k:=2) (l:=1) rfl rfl rfl rfl ab ae (eN rfl rfl) dN (by simp) (Nat.le_refl _) gl);refine aa rfl (ai rfl rfl) (ar ?_))
    exact aW (M,less1.set hi (lo:Int),q ++ N,pre2 ++ [p.1,p.2],o2 + 1) ⟨hm2,by rw [List.length_set];exact hn1,by rw [←hn1];exact hm3,by show fuel _ (less1.set hi (lo:Int)) (q ++ N)≤2100000;omega,by show ident _ _ _ (q ++ N)=R;rw [←hm1];exact hr,by simp;omega⟩ (by show fuel _ _ (q ++ N) < fuel _ less1 (p :: q);exact hm4) (Wk.of ⟨rfl,rfl,ag⟩ ⟨rfl,rfl,rfl,congrArg (fun l=>some (Et l)) (show pre2 ++ eZ ((p :: q) ++ N)=(pre2 ++ [p.1,p.2]) ++ eZ (q ++ N) by simp [eZ]),ag⟩ ⟨rfl,ag⟩)
 ·obtain rfl:qq= []:=by
   cases qq with
   | nil=>rfl
   | cons p q=>simp at hlt
  rw [u6] at hr
  subst hr
  (refine a7 ?_;refine aA ?_;refine aA ?_;refine aT ?_)
  exact iF (.inr rfl) rfl ⟨rfl,rfl,rfl,ag⟩ ⟨rfl,ag⟩
end Go.Proofs.YtekbhbcgoadciaaGreat
namespace Go.Proofs.YtekbhbcgoadciaaGreat
open Go.RowKit
theorem CF {im:List (List Int)} {c d g:Nat} :eh (eh im c g (d:Int)) d g (c:Int)=eh (eh im d g (c:Int)) c g (d:Int):=by
 by_cases e:c=d
 ·subst e;rfl
 ·unfold eh
  rw [fA,if_neg (fun h=>e h.1),fA,if_neg (fun h=>e h.1.symm),List.set_comm _ _ e]
def gX (ng:Nat) (im:List (List Int)) (less:List Int) (b:Bool) (c:Nat) (w:List Nat):dR:=
 if b=true then (if w.length=1 then ((db ng im less c w).1,(db ng im less c w).2.1,true) else (im,less,true)) else db ng im less c w
theorem xV {ng c:Nat} {im:List (List Int)} {less:List Int} {w:List Nat} {g:Nat} {M:List (List Int)} {N:List Int} {d:Nat} (hw:w.getLast?=some g) (hg:ic ng (im,less,false,c) w.dropLast=(M,N,false,d)):
  db ng im less c w=if 0≤image M N d g then ((ident ng M N [(image M N d g,(c:Int))]).1,(ident ng M N [(image M N d g,(c:Int))]).2,false)
   else if 0≤image M N c g then ((ident ng M N [(image M N c g,(d:Int))]).1,(ident ng M N [(image M N c g,(d:Int))]).2,false)
   else (eh (eh M d g c) c g d,N,false):=by
 unfold db;rw [hw];dsimp only;rw [hg];rfl
theorem wM {ng c:Nat} {im:List (List Int)} {less:List Int} {w:List Nat} {g:Nat} {M:List (List Int)} {N:List Int} {d:Nat} (hw:w.getLast?=some g) (hg:ic ng (im,less,false,c) w.dropLast=(M,N,true,d)):
  db ng im less c w=(M,N,true):=by
 unfold db;rw [hw];dsimp only;rw [hg];rfl
theorem Dm {ng:Nat} {s s':List (List Int)×List Int×Bool×Nat} {w:List Nat} {k:Nat} (h:ic ng s (w.take k)=s') (hf:s'.2.2.1=true):ic ng s w=s':=by
 rw [←List.take_append_drop k w,mO,h,ij hf]
theorem qw (ng n:Nat) (im:List (List Int)) (less:List Int) (b:Bool) (c:Nat) (words:List (List Int)) (j wl:Nat) (W:List Int) (hnn:less.length=n) (hw:WF ng im less) (hb:b=true→less.length=2000) (hc:c < less.length) (hn:less.length≤2000) (hng:ng≤1000) (hj:j < words.length) (hW:bn words j=W) (hwl:W.length=wl) (hwb:wl≤1000000000) (hlet:bB ng W) (C:dR) (hC:gX ng im less b c (W.map Int.toNat)=C):
  FC Tryz.prog 124 [(1010,om n n b),(1000,cT im),(1001,bG less),(1002,a6 words)] [o1 (.ptr 1010 0),o1 (.esl 1002 j 0 wl),vv (I6 c)] [(1010,om C.2.1.length C.2.1.length C.2.2),(1000,cT C.1),(1001,bG C.2.1)] (.tup []) [(0,o1 (.ptr 1010 0))]:=by
 subst hnn hwl
 have hrow:(bV words)[j]? =some (aL W):=by rw [←hW];exact cf hj
 have hWl:(aL W).length=W.length:=bc W
 refine bj (nt:=76) Tryz.func124 rfl rfl (by simp) fun w0 ω0=> ?_
 (refine ak (ak (ah (aa rfl (aj rfl rfl) (aa rfl (bw rfl rfl rfl ab) ?_))));refine aa rfl (aG rfl rfl rfl rfl) (ar (an ?_)))
 refine ax rfl (fun h0=> ?_) (fun h0=> ?_)
 ·obtain rfl:W= []:=by simpa using h0
  have hCe:C=(im,less,b):=by
   rw [←hC];unfold gX;cases b<;>rfl
  subst hCe
  (refine aS ?_;refine aO ?_)
  exact iF (.inl rfl) rfl ⟨rfl,rfl,rfl,ag⟩ ⟨rfl,ag⟩
 ·have hpos:0 < W.length:=List.length_pos_iff.2 (by simpa using h0)
  obtain ⟨L,hL⟩:∃L,W.map Int.toNat=L:=⟨_,rfl⟩
  have hLl:L.length=W.length:=by rw [←hL];simp
  have hget:∀k,k < W.length→∃g:Nat,g < ng∧L[k]? =some g∧aC W k=(g:Int):=fun k hk=>by
   have hz:=hlet (aC W k) (eH hk)
   refine ⟨(aC W k).toNat,ae, ?_,(Int.toNat_of_nonneg hz.1).symm⟩
   rw [←hL,List.getElem?_map,List.getElem?_eq_getElem hk,cX hk];rfl
  have hdl:L.dropLast=L.take (W.length - 1):=by rw [List.dropLast_eq_take,hLl]
  rw [hL] at hC
  have hws:IntKind.i64.wrap ((W.length:Int) - 1)=((W.length - 1:Nat):Int):=by rw [IntWalk.i64_in _ ae];omega
  (refine aE (an (ak (ah (aa rfl (aj rfl rfl) (aa rfl (ai rfl rfl) (ar (an (ak (ah (aa rfl (aj rfl rfl) (aa rfl (bw rfl rfl rfl ab) ?_)))))))))));apply aa rfl;(first | exact cg rfl rfl rfl hws | exact rp (l:=W.length - 1) rfl rfl rfl rfl hrow ab rfl rfl ae (Nat.le_of_eq hWl.symm));refine aa rfl (ai rfl rfl) (ar (an (ak (ak (ah (aa rfl (aj rfl rfl) (aa rfl (aj rfl rfl) ?_)))))));apply aa rfl;(first | exact cg rfl rfl rfl hws | exact rp (l:=W.length - 1) rfl rfl rfl rfl hrow ab rfl rfl ae (Nat.le_of_eq hWl.symm));apply aa rfl;exact bw rfl rfl rfl ab;refine aa rfl (aj rfl rfl) (ar (an (aB ?_))))
  refine bz (fun q:Nat×List (List Int)×List Int×Nat=>St.of [(0,o1 (.ptr 1010 0)),(1,o1 (.esl 1002 j 0 W.length)),(2,vv (I6 c)),(6,vv (I6 q.2.2.2)),(7,vv (I6 ((W.length - 1:Nat):Int))),(23,o1 (.esl 1002 j 0 (W.length - 1))),(24,vv (I6 ((W.length - 1:Nat):Int))),(25,vv (I6 q.1))]
    [(1010,om q.2.2.1.length q.2.2.1.length b),(1000,cT q.2.1),(1001,bG q.2.2.1),(1002,a6 words)] [(0,o1 (.ptr 1010 0))])
   (fun q=>q.1≤W.length - 1∧ic ng (im,less,false,c) (L.take q.1)=(q.2.1,q.2.2.1,false,q.2.2.2)∧(b=true→q.1=0)) (fun q=>W.length - 1 - q.1) (0,im,less,c) ⟨Nat.zero_le _,rfl,fun _=>rfl⟩ (Wk.of ⟨rfl,rfl,rfl,rfl,rfl,rfl,rfl,rfl,ag⟩ ⟨rfl,rfl,rfl,rfl,ag⟩ ⟨rfl,ag⟩) ?_
  rintro ⟨k,M,N,d⟩ ⟨hk,hgo,hb0⟩
  dsimp only at hk hgo hb0 ⊢
  have hok:vW ng less.length (M,N,false,d):=by
   have:=nE (ng:=ng) (n0:=less.length) (L.take k) (im,less,false,c) ⟨hw,Nat.le_refl _,hn,hc⟩ fun g hg=>by
    have hg:=List.mem_of_mem_take hg
    rw [←hL] at hg
    exact hlet.nat g hg
   rwa [hgo] at this
  have hMw:WF ng M N:=hok.wf
  have hMn:M.length=N.length:=hMw.len
  have hdN:d < N.length:=hok.d
  have hNhi:N.length≤2000:=hok.hi
  have hlN:less.length≤N.length:=hok.lo
  have hbN:b=true→N.length=2000:=fun hbt=>by have:=hb hbt;omega
  (refine ak (ah (aa rfl (aG rfl rfl rfl rfl) (ar (an (ak ?_))))))
  refine bK rfl (fun hlt=> ?_) (fun hlt=> ?_)
  ·have hlt':k < W.length - 1:=by omega
   obtain ⟨g,hg,hLk,hgk⟩:=hget k ae
   have hgv:(aL W)[k]? =some (I6 (g:Int)):=by rw [bl ae,hgk]
   have hgo':ic ng (im,less,false,c) (L.take (k + 1))=ck ng M N d g:=by
    rw [List.take_add_one,hLk,mO,hgo];rfl
   have hI:=mL M N N.length N.length d g b hMn rfl hMw.down ae (by rw [hMw.row d ae];exact hg) (hMw.bZ d g ae hg)
   (refine aE (an (ak (aB (ak (ah ?_)))));apply aa rfl;exact bd rfl rfl rfl rfl rfl ab aQ a9 aJ a8;apply aa rfl;exact a5 rfl ab rfl rfl rfl aQ aQ;refine aa rfl (ai rfl rfl) (ar (an (ak (ah (aa rfl (aj rfl rfl) (aa rfl (aj rfl rfl) (aa rfl (aj rfl rfl) ?_)))))));apply aa rfl;(apply au 127;exact aw hI ab rfl rfl ⟨rfl,rfl,rfl,ag⟩ ⟨⟨_,rfl, .inr rfl⟩,⟨_,rfl, .inr rfl⟩,⟨_,rfl, .inr rfl⟩,ag⟩ rfl rfl);refine aa rfl (ai rfl rfl) (ar (an (ak (ak (ah (aa rfl (aj rfl rfl) (aa rfl (aG rfl rfl rfl rfl) (ar (an ?_))))))))))
   have hgl:W.length - 1 < W.length:=by omega
   obtain ⟨gl,_,hLg,_⟩:=hget (W.length - 1) hgl
   have hlast:L.getLast?=some gl:=by rw [List.getLast?_eq_getElem?,hLl];exact hLg
   have hw1:L.length≠1:=by omega
   refine ax rfl (fun he=> ?_) (fun he=> ?_)
   ·have he:image M N d g < 0:=by simpa using he
    have hent:¬0≤bZ M d g:=fun h=>by unfold image at he;rw [if_neg ae] at he;omega
    by_cases hfull:N.length=2000
    ·have hD:=oS M N N.length N.length d g b hMn ae
     have hnx:ck ng M N d g=(M,N,true,0):=by unfold ck;rw [if_neg hent,if_pos hfull]
     have hCe:C=(M,N,true):=by
      rw [←hC];unfold gX
      cases b with
      | true=>
       rw [if_pos rfl,if_neg hw1]
       obtain rfl:k=0:=hb0 rfl
       simp only [List.take_zero,ic,Prod.mk.injEq] at hgo
       rw [hgo.1,hgo.2.1]
      | false=>
       rw [if_neg (by simp)]
       refine wM hlast (d:=0) ?_
       rw [hdl]
       refine Dm (k:=k + 1) (by rw [List.take_take,Nat.min_eq_left ae,hgo',hnx]) rfl
     subst hCe
     (refine ah (aa rfl (aj rfl rfl) (aa rfl (aj rfl rfl) (aa rfl (aj rfl rfl) ?_)));apply aa rfl;(apply au 126;exact dc [(0,1010)] hD ab rfl rfl ⟨rfl,rfl,rfl,ag⟩ ⟨⟨_,rfl, .inl rfl⟩,⟨_,rfl, .inl rfl⟩,⟨_,rfl, .inl rfl⟩,ag⟩ ⟨rfl,rfl,rfl,ag⟩ rfl rfl);refine aa rfl (ai rfl rfl) (ar (an (ak (ak (ah (aa rfl (aj rfl rfl) (aa rfl (bC rfl rfl rfl) ?_)))))));apply aa rfl;(exact aI (d:=2) rfl rfl rfl ab);apply aa rfl;exact aZ rfl ab rfl rfl rfl rfl;refine ar (an ?_))
     refine ax rfl (fun _=> ?_) (fun e=>by cases e)
     (refine aS ?_;refine aO ?_;refine bt ?_;refine aO ?_;refine aO ?_;refine bt ?_;refine aO ?_)
     exact iF (.inl rfl) rfl ⟨rfl,rfl,rfl,ag⟩ ⟨rfl,ag⟩
    ·obtain rfl:b=false:=by
      cases b with
      | false=>rfl
      | true=>exact absurd (hbN rfl) hfull
     have hD:=sO ng M N N.length N.length d g false hMn rfl ae hMw hdN hg hng
     have hnx:ck ng M N d g=(nD ng M N.length d g,N ++ [(N.length:Int)],false,N.length):=by unfold ck;rw [if_neg hent,if_neg hfull]
     have hsn:(N ++ [(N.length:Int)]).length=N.length + 1:=by simp
     (refine ah (aa rfl (aj rfl rfl) (aa rfl (aj rfl rfl) (aa rfl (aj rfl rfl) ?_)));apply aa rfl;(apply au 126;exact dc [(0,1010)] hD ab rfl rfl ⟨rfl,rfl,rfl,ag⟩ ⟨⟨_,rfl, .inl rfl⟩,⟨_,rfl, .inl rfl⟩,⟨_,rfl, .inl rfl⟩,ag⟩ ⟨rfl,rfl,rfl,ag⟩ rfl rfl);refine aa rfl (ai rfl rfl) (ar (an (ak (ak (ah (aa rfl (aj rfl rfl) (aa rfl (bC rfl rfl rfl) ?_)))))));apply aa rfl;(exact aI (d:=2) rfl rfl rfl ab);apply aa rfl;exact aZ rfl ab rfl rfl rfl rfl;refine ar (an ?_))
     refine ax rfl (fun e=>by cases e) (fun _=> ?_)
     (refine aE (an (ah (aa rfl (aj rfl rfl) (aa rfl (ai rfl rfl) (ar (aM (an (ah ?_))))))));apply aa rfl;exact aP rfl rfl rfl bA;refine aa rfl (aj rfl rfl) (ar ?_))
     exact aW (k + 1,nD ng M N.length d g,N ++ [(N.length:Int)],N.length) ⟨hlt',hgo'.trans hnx,fun e=>by cases e⟩ (by show W.length - 1 - (k + 1) < W.length - 1 - k;omega) (Wk.of ⟨rfl,rfl,rfl,rfl,rfl,rfl,rfl,rfl,ag⟩ ⟨by rw [hsn];rfl,rfl,rfl,rfl,ag⟩ ⟨rfl,ag⟩)
   ·have he:¬image M N d g < 0:=by simpa using he
    have hent:0≤bZ M d g:=by
     rcases Int.lt_or_le (bZ M d g) 0 with h | h
     ·exfalso;apply he;unfold image;rw [if_pos h];omega
     ·exact h
    have hie:image M N d g=(root N (bZ M d g).toNat:Nat):=by unfold image;rw [if_neg ae]
    have hnx:ck ng M N d g=(M,N,false,root N (bZ M d g).toNat):=by unfold ck;rw [if_pos hent]
    (refine aE (an (ak (ak (ah (aa rfl (aj rfl rfl) (aa rfl (bC rfl rfl rfl) ?_))))));apply aa rfl;(exact aI (d:=2) rfl rfl rfl ab);apply aa rfl;exact aZ rfl ab rfl rfl rfl rfl;refine ar (an ?_))
    refine ax rfl (fun hbt=> ?_) (fun hbf=> ?_)
    ·subst hbt
     obtain rfl:k=0:=hb0 rfl
     simp only [List.take_zero,ic,Prod.mk.injEq] at hgo
     obtain ⟨rfl,rfl,_,rfl⟩:=hgo
     have hCe:C=(im,less,true):=by rw [←hC];unfold gX;rw [if_pos rfl,if_neg hw1]
     subst hCe
     (refine aS ?_;refine aO ?_;refine bt ?_;refine aO ?_;refine aO ?_;refine bt ?_;refine aO ?_)
     exact iF (.inl rfl) rfl ⟨rfl,rfl,rfl,ag⟩ ⟨rfl,ag⟩
    ·subst hbf
     (refine aE (an (ah (aa rfl (aj rfl rfl) (aa rfl (ai rfl rfl) (ar (aM (an (ah ?_))))))));apply aa rfl;exact aP rfl rfl rfl bA;refine aa rfl (aj rfl rfl) (ar ?_))
     exact aW (k + 1,M,N,root N (bZ M d g).toNat) ⟨hlt',hgo'.trans hnx,fun e=>by cases e⟩ (by show W.length - 1 - (k + 1) < W.length - 1 - k;omega) (Wk.of ⟨rfl,rfl,rfl,by rw [←hie];rfl,rfl,rfl,rfl,rfl,ag⟩ ⟨rfl,rfl,rfl,rfl,ag⟩ ⟨rfl,ag⟩)
  ·obtain rfl:k=W.length - 1:=by omega
   obtain ⟨g,hg,hLk,hgk⟩:=hget (W.length - 1) ae
   have hlast:L.getLast?=some g:=by rw [List.getLast?_eq_getElem?,hLl];exact hLk
   have hgv:(aL W)[W.length - 1]? =some (I6 (g:Int)):=by rw [bl ae,hgk]
   rw [←hdl] at hgo
   have hcl:=xV hlast hgo
   have hw1:b=true→L.length=1:=fun hbt=>by have:=hb0 hbt;omega
   have hCe:C=((db ng im less c L).1,(db ng im less c L).2.1,b):=by
    rw [←hC];unfold gX
    cases b with
    | true=>rw [if_pos rfl,if_pos (hw1 rfl)]
    | false=>rw [if_neg (by simp)];rw [hcl];(split;· rfl);split<;>rfl
   have hcN:c < N.length:=by omega
   have hI1:=mL M N N.length N.length d g b hMn rfl hMw.down ae (by rw [hMw.row d ae];exact hg) (hMw.bZ d g ae hg)
   have hI2:=mL M N N.length N.length c g b hMn rfl hMw.down ae (by rw [hMw.row c ae];exact hg) (hMw.bZ c g ae hg)
   have hil1:=eL hMw hdN hg
   have hil2:=eL hMw hcN hg
   have hwd:(bn M d).length=ng:=hMw.row d ae
   have hwc:(bn M c).length=ng:=hMw.row c ae
   generalize image M N d g=e at *
   generalize image M N c g=f at *
   (refine a7 (aA (aA (aT (an (ak (ah (aa rfl (aj rfl rfl) (aa rfl (aj rfl rfl) ?_))))))));apply aa rfl;exact bd rfl rfl rfl rfl rfl ab aQ a9 aJ a8;apply aa rfl;exact a5 rfl ab rfl rfl rfl aQ aQ;refine aa rfl (ai rfl rfl) (ar (an (ak (ah (aa rfl (aj rfl rfl) (aa rfl (aj rfl rfl) (aa rfl (aj rfl rfl) ?_)))))));apply aa rfl;(apply au 127;first | exact aw hI1 ab rfl rfl ⟨rfl,rfl,rfl,ag⟩ ⟨⟨_,rfl, .inr rfl⟩,⟨_,rfl, .inr rfl⟩,⟨_,rfl, .inr rfl⟩,ag⟩ rfl rfl | exact aw hI2 ab rfl rfl ⟨rfl,rfl,rfl,ag⟩ ⟨⟨_,rfl, .inr rfl⟩,⟨_,rfl, .inr rfl⟩,⟨_,rfl, .inr rfl⟩,ag⟩ rfl rfl);refine aa rfl (aj rfl rfl) (aa rfl (aj rfl rfl) (aa rfl (aj rfl rfl) ?_));apply aa rfl;(apply au 127;first | exact aw hI1 ab rfl rfl ⟨rfl,rfl,rfl,ag⟩ ⟨⟨_,rfl, .inr rfl⟩,⟨_,rfl, .inr rfl⟩,⟨_,rfl, .inr rfl⟩,ag⟩ rfl rfl | exact aw hI2 ab rfl rfl ⟨rfl,rfl,rfl,ag⟩ ⟨⟨_,rfl, .inr rfl⟩,⟨_,rfl, .inr rfl⟩,⟨_,rfl, .inr rfl⟩,ag⟩ rfl rfl);refine aa rfl (ai rfl rfl) (aa rfl (ai rfl rfl) (ar (an (aB (ak (ah (aa rfl (aj rfl rfl) (aa rfl (aG rfl rfl rfl rfl) (aa rfl (ai rfl rfl) (ar (an ?_))))))))))))
   refine ax rfl (fun he=> ?_) (fun he=> ?_)
   ·have he:0≤e:=by simp at he;omega
    rw [if_pos he] at hcl
    rw [hcl] at hCe
    dsimp only at hCe
    have hId:=oG ng N.length M N e.toNat c b rfl hMw ae hcN hNhi hng
    rw [Int.toNat_of_nonneg he] at hId
    have hlen:=(iI (q:= [(e,(c:Int))]) hMw rfl (fun p hp=>by simp at hp;subst hp;exact ⟨⟨he,by dsimp only;omega⟩,by dsimp only;omega,by dsimp only;omega⟩)).2
    subst hCe
    (refine ah (aa rfl (aj rfl rfl) (aa rfl (aj rfl rfl) (aa rfl (aj rfl rfl) ?_)));apply aa rfl;(apply au 149;exact dc [(0,1010)] hId ab rfl rfl ⟨rfl,rfl,rfl,ag⟩ ⟨⟨_,rfl, .inl rfl⟩,⟨_,rfl, .inl rfl⟩,⟨_,rfl, .inl rfl⟩,ag⟩ ⟨rfl,rfl,rfl,ag⟩ rfl rfl);refine ar (aM ?_))
    exact iF (.inr rfl) rfl ⟨by dsimp only;rw [hlen];rfl,rfl,rfl,ag⟩ ⟨rfl,ag⟩
   ·have he:¬0≤e:=by simp at he;omega
    rw [if_neg he] at hcl
    (refine ak (ah (aa rfl (aj rfl rfl) (aa rfl (aG rfl rfl rfl rfl) (aa rfl (ai rfl rfl) (ar (an ?_)))))))
    refine ax rfl (fun hf=> ?_) (fun hf=> ?_)
    ·have hf:0≤f:=by simp at hf;omega
     rw [if_pos hf] at hcl
     rw [hcl] at hCe
     dsimp only at hCe
     have hId:=oG ng N.length M N f.toNat d b rfl hMw ae hdN hNhi hng
     rw [Int.toNat_of_nonneg hf] at hId
     have hlen:=(iI (q:= [(f,(d:Int))]) hMw rfl (fun p hp=>by simp at hp;subst hp;exact ⟨⟨hf,by dsimp only;omega⟩,by dsimp only;omega,by dsimp only;omega⟩)).2
     subst hCe
     (refine ah (aa rfl (aj rfl rfl) (aa rfl (aj rfl rfl) (aa rfl (aj rfl rfl) ?_)));apply aa rfl;(apply au 149;exact dc [(0,1010)] hId ab rfl rfl ⟨rfl,rfl,rfl,ag⟩ ⟨⟨_,rfl, .inl rfl⟩,⟨_,rfl, .inl rfl⟩,⟨_,rfl, .inl rfl⟩,ag⟩ ⟨rfl,rfl,rfl,ag⟩ rfl rfl);refine ar (aM ?_))
     exact iF (.inr rfl) rfl ⟨by dsimp only;rw [hlen];rfl,rfl,rfl,ag⟩ ⟨rfl,ag⟩
    ·have hf:¬0≤f:=by simp at hf;omega
     rw [if_neg hf] at hcl
     rw [hcl] at hCe
     dsimp only at hCe
     have hLk:=wR M N N.length N.length c d g b hMn ae ae ae ae
     rw [CF] at hLk
     subst hCe
     (refine ah (aa rfl (aj rfl rfl) (aa rfl (aj rfl rfl) (aa rfl (aj rfl rfl) (aa rfl (aj rfl rfl) ?_))));apply aa rfl;(apply au 150;exact dc [(0,1010)] hLk ab rfl rfl ⟨rfl,rfl,rfl,rfl,ag⟩ ⟨⟨_,rfl, .inl rfl⟩,⟨_,rfl, .inl rfl⟩,⟨_,rfl, .inl rfl⟩,ag⟩ ⟨rfl,rfl,rfl,ag⟩ rfl rfl);refine ar (aM ?_))
     exact iF (.inr rfl) rfl ⟨rfl,rfl,rfl,ag⟩ ⟨rfl,ag⟩
end Go.Proofs.YtekbhbcgoadciaaGreat
namespace Go.Proofs.YtekbhbcgoadciaaGreat
theorem wJ {ng n0:Nat} :∀(w:List Nat) (s:List (List Int)×List Int×Bool×Nat),vW ng n0 s→(∀g∈w,g < ng)→(s.2.2.1=true→s.2.1.length=2000)→(ic ng s w).2.2.1=true→(ic ng s w).2.1.length=2000
 | [],s,_,_,h,hf=>h hf
 | g :: r,s,h,hg,hs,hf=>by
  unfold ic at hf ⊢
  by_cases e:s.2.2.1=true
  ·rw [if_pos e] at hf ⊢;exact hs e
  ·rw [if_neg e] at hf ⊢
   obtain ⟨h1,h2,h3,h4,h5⟩:=gV h.wf h.d (hg g (by simp)) h.hi
   exact wJ (n0:=n0) r _ ⟨h1,Nat.le_trans h.lo h2,h3,h4⟩ (fun x hx=>hg x (by simp [hx])) h5 hf
theorem xu {ng:Nat} {im:List (List Int)} {less:List Int} {c:Nat} {w:List Nat} (h:WF ng im less) (hc:c < less.length) (hn:less.length≤2000) (hg:∀g∈w,g < ng) (hf:(db ng im less c w).2.2=true):(db ng im less c w).2.1.length=2000:=by
 unfold db at hf ⊢
 cases hw:w.getLast? with
 | none=>rw [hw] at hf;cases hf
 | some g=>
  rw [hw] at hf
  have hfull:=wJ (n0:=less.length) w.dropLast (im,less,false,c) ⟨h,Nat.le_refl _,hn,hc⟩ (fun x hx=>hg x (List.dropLast_subset _ hx)) (fun e=>by cases e)
  generalize ic ng (im,less,false,c) w.dropLast=s at *
  dsimp only at hf ⊢
  by_cases e:s.2.2.1=true
  ·rw [if_pos e];exact hfull e
  ·rw [if_neg e] at hf
   split at hf
   ·cases hf
   ·split at hf<;>cases hf
structure y4 (ng n:Nat) (s:dR):Prop where
 ok:cD ng n s
 full:s.2.2=true→s.2.1.length=2000
def lD (ng:Nat) (s:dR) (w:List Int):dR:=gX ng s.1 s.2.1 s.2.2 0 (w.map Int.toNat)
theorem uo {ng n c:Nat} {s:dR} {w:List Nat} (h:y4 ng n s) (hc:c < n) (hw:∀g∈w,g < ng):y4 ng n (gX ng s.1 s.2.1 s.2.2 c w):=by
 have hcl:c < s.2.1.length:=Nat.lt_of_lt_of_le hc h.ok.lo
 have hk:=pI h.ok.wf hcl h.ok.hi hw
 unfold gX
 split
 ·rename_i hb
  have hl:=h.full hb
  split
  ·refine ⟨⟨hk.wf,Nat.le_trans h.ok.lo hk.lo,hk.hi⟩,fun _=> ?_⟩
   have h1:=hk.lo
   have h2:=hk.hi
   dsimp only
   omega
  ·exact ⟨⟨h.ok.wf,h.ok.lo,h.ok.hi⟩,fun _=>hl⟩
 ·exact ⟨⟨hk.wf,Nat.le_trans h.ok.lo hk.lo,hk.hi⟩,fun hf=>xu h.ok.wf hcl h.ok.hi hw hf⟩
theorem C3 {ng n:Nat} {s:dR} {w:List Int} (h:y4 ng n s) (hn:0 < n) (hw:bB ng w):y4 ng n (lD ng s w):=uo h hn hw.nat
theorem Al {ng n c:Nat} {s:dR} {w:List Int} (h:y4 ng n s) (hc:c < n) (hw:bB ng w):y4 ng n (c9 ng c s w):=by
 unfold c9
 split
 ·rename_i hl
  have hb:s.2.2=false:=by unfold fb at hl;simp at hl;exact hl.2
  have:=uo h hc hw.nat
  unfold gX at this
  rwa [hb,if_neg (by simp)] at this
 ·exact h
theorem Cy {ng n c g:Nat} {s:dR} (h:y4 ng n s) (hc:c < n) (hg:g < ng):y4 ng n (dm ng c s g):=by
 refine ⟨kM h.ok hc hg, ?_⟩
 unfold dm
 split
 ·exact (gV h.ok.wf (Nat.lt_of_lt_of_le hc h.ok.lo) hg h.ok.hi).2.2.2.2
 ·exact h.full
theorem zR (ng:Nat):y4 ng 1 (dG ng):=⟨jm ng,fun h=>by cases h⟩
def CO (ng:Nat) (rels words:List (List Int)):dR:=outer ng rels 2001 0 (words.foldl (lD ng) (dG ng))
theorem m8 {ng:Nat} {s:dR} (h:s.2.2=true) (w:List Int):(lD ng s w).2.2=true:=by
 unfold lD gX
 rw [if_pos h];split<;>rfl
theorem uJ {ng:Nat} :∀(words:List (List Int)) (s s':dR),(s=s'∨(s.2.2=true∧s'.2.2=true))→(words.foldl (dD ng) s=words.foldl (lD ng) s'∨((words.foldl (dD ng) s).2.2=true∧(words.foldl (lD ng) s').2.2=true))
 | [],s,s',h=>h
 | w :: r,s,s',h=>by
  refine uJ r _ _ ?_
  rcases h with rfl | ⟨h1,h2⟩
  ·by_cases e:s.2.2=true
   ·right
    exact ⟨by rw [iC e];exact e,m8 e w⟩
   ·left
    unfold dD lD gX
    rw [if_neg e,if_neg e]
  ·right
   exact ⟨by rw [iC h1];exact h1,m8 h2 w⟩
theorem pF (ng:Nat) (rels words:List (List Int)):cm ng rels words=CO ng rels words∨((cm ng rels words).2.2=true∧(CO ng rels words).2.2=true):=by
 unfold cm CO
 rcases uJ (ng:=ng) words (dG ng) (dG ng) (.inl rfl) with h | ⟨h1,h2⟩
 ·left;rw [h]
 ·right;rw [hJ h1,hJ h2];exact ⟨h1,h2⟩
end Go.Proofs.YtekbhbcgoadciaaGreat
namespace Go.Proofs.YtekbhbcgoadciaaGreat
def gN (ng:Nat) (im:List (List Int)) (less:List Int) (s:je) (i g:Nat):List (List Int):=(List.range ng).map fun g'=>(List.range (if g' < g then i + 1 else i)).map (iN im less s g')
def jc (ng:Nat) (im:List (List Int)) (less:List Int) (s:je) (i g:Nat):Prop:=∀k g',g' < ng→(k < i∨(k=i∧g' < g))→k < s.1.length∧0≤iN im less s g' k
section
variable {ng:Nat} {im:List (List Int)} {less:List Int} {s s':je} {i g:Nat}
theorem DK:(gN ng im less s i g).length=ng:=by simp [gN]
theorem CJ:gN ng im less s 0 0=List.replicate ng []:=by
 refine List.ext_getElem (by simp [gN]) fun k h1 h2=> ?_
 simp [gN]
theorem DV (hg:g < ng):bn (gN ng im less s i g) g=(List.range i).map (iN im less s g):=by
 simp [gN,bn,hg]
theorem BI:gN ng im less s i ng=gN ng im less s (i + 1) 0:=by
 unfold gN
 refine List.map_congr_left fun g' hg'=> ?_
 rw [if_pos (List.mem_range.1 hg'),if_neg ae]
theorem tZ (h:eS s s') {k g':Nat} (hk:k < s.1.length) (h0:0≤iN im less s g' k):iN im less s' g' k=iN im less s g' k:=by
 unfold iN at h0 ⊢
 rw [h.pre k hk,h.num _ h0]
theorem CV (h:eS s s') (hs:jc ng im less s i g):gN ng im less s i g=gN ng im less s' i g:=by
 unfold gN
 refine List.map_congr_left fun g' hg'=> ?_
 refine List.map_congr_left fun k hk=> ?_
 have hg':=List.mem_range.1 hg'
 have hk:=List.mem_range.1 hk
 have:=hs k g' hg' (by
  split at hk
  ·rename_i e
   by_cases e2:k < i
   ·exact .inl e2
   ·exact .inr ⟨ae,e⟩
  ·exact .inl hk)
 exact (tZ h this.1 this.2).symm
theorem DZ (hg:g < ng):(gN ng im less s i g).set g ((List.range i).map (iN im less s g) ++ [iN im less s g i])=gN ng im less s i (g + 1):=by
 refine List.ext_getElem (by simp [gN]) fun k h1 h2=> ?_
 simp only [gN,List.length_map,List.length_range] at h2
 rw [List.getElem_set]
 simp only [gN,List.getElem_map,List.getElem_range]
 by_cases e:g=k
 ·subst e
  rw [if_pos rfl,if_pos ae,List.range_succ,List.map_append];rfl
 ·rw [if_neg e]
  by_cases e2:k < g
  ·rw [if_pos e2,if_pos ae]
  ·rw [if_neg e2,if_neg ae]
theorem jc.grow (h:eS s s') (hs:jc ng im less s i g):jc ng im less s' i g:=fun k g' hg' hk=>by
 obtain ⟨h1,h2⟩:=hs k g' hg' hk
 exact ⟨Nat.lt_of_lt_of_le h1 h.len,by rw [tZ h h1 h2];exact h2⟩
theorem jc.next (hs:jc ng im less s i ng):jc ng im less s (i + 1) 0:=fun k g' hg' hk=>hs k g' hg' ae
theorem jc.zero:jc ng im less s 0 0:=fun k g' _ hk=>by omega
theorem ry {d e:Nat} (hi:i < s.1.length) (hd:aC s.1 i=(d:Int)) (he:image im less d g=(e:Int)):iN im less (visit s e) g i=aC (visit s e).2 e:=by
 unfold iN
 rw [(fI s e).pre i hi,hd,Int.toNat_natCast,he,Int.toNat_natCast]
theorem jc.visit {d e:Nat} (hF:pn less.length less s) (hi:i < s.1.length) (hd:aC s.1 i=(d:Int)) (he:image im less d g=(e:Int)) (hel:e < less.length) (hs:jc ng im less s i g):jc ng im less (visit s e) i (g + 1):=fun k g' hg' hk=>by
 by_cases e1:k=i∧g'=g
 ·obtain ⟨rfl,rfl⟩:=e1
  exact ⟨Nat.lt_of_lt_of_le hi (fI s e).len,by rw [ry hi hd he];exact vb hF hel⟩
 ·exact hs.grow (fI s e) k g' hg' ae
theorem BN (h:bO ng im less=s):gN ng im less s s.1.length 0=cj ng im less:=by
 subst h
 rw [rV]
 unfold gN
 refine List.map_congr_left fun g' _=> ?_
 rw [if_neg ae]
end
def fN (M:List Int) (z:Int):Option Int:=if 0≤z∧z < M.length∧0≤aC M z.toNat then some (aC M z.toNat) else none
theorem D6 {M:List Int} {e:Nat} {v:Int} (he:e < M.length) (hv:0≤v):(fun z=>if z=(e:Int) then some v else fN M z)=fN (M.set e v):=by
 funext z
 have h1:aC (M.set e v) e=v:=by rw [cK,if_pos ⟨rfl,he⟩]
 unfold fN
 rw [List.length_set]
 by_cases h:z=(e:Int)
 ·subst h
  rw [if_pos rfl,Int.toNat_natCast,h1,if_pos ⟨ae,ae,hv⟩]
 ·rw [if_neg h]
  by_cases h0:0≤z
  ·have h2:aC (M.set e v) z.toNat=aC M z.toNat:=by rw [cK,if_neg ae]
   rw [h2]
  ·rw [if_neg (fun hh=>h0 hh.1),if_neg (fun hh=>h0 hh.1)]
theorem He (n:Nat):fN (List.replicate n (-1))=fun _=>none:=by
 funext z
 unfold fN
 rw [if_neg]
 rintro ⟨h1,h2,h3⟩
 rw [fp (by simp at h2;omega)] at h3
 omega
theorem D7 {n:Nat} (h:0 < n):(fun z:Int=>if z=0 then some (0:Int) else none)=fN (dE n).2:=by
 show _=fN ((List.replicate n (-1)).set 0 0)
 rw [←D6 (by simpa using h) (Int.le_refl 0),He]
 rfl
theorem F2 {M:List Int} {e:Nat} (he:e < M.length):(fN M (e:Int)).isSome=decide (0≤aC M e)∧(0≤aC M e→(fN M (e:Int)).getD 0=aC M e):=by
 unfold fN
 rw [Int.toNat_natCast]
 by_cases h:0≤aC M e
 ·rw [if_pos ⟨ae,ae,h⟩];simp [h]
 ·rw [if_neg (fun hh=>h hh.2.2)];simp [h]
end Go.Proofs.YtekbhbcgoadciaaGreat
namespace Go.Proofs.YtekbhbcgoadciaaGreat
open Go.RowKit
section
variable {P:Program} {nt:Nat} {S S1 S2:St} {w0 w wB:World} {ω0:ml} {ω ωB:bY} {η:Env} {a:Act} {Q:Exit→Act→World→Prop} {ops:Array Oper} {rest:List Oper}
variable {t:Nat} {ty:TypeId} {ps:String} {af:Array Edge} {gd:Option (Nat×Bool)} {x y:Operand} {av:AV} {o:Oper}
theorem lN.off {own:Bool} {ow:Nm×Option Nat} {h:Hd} {E:TypeId} {len:Nat} {cell cell':Nat→Value→Prop} {b:Nat} {w':World} (hb:∀o,w.cell? ⟨b,o,none⟩=none) (hn:ω b=none) (hs:∀b',b' < w.heap.size→b'≠b→w'.heap[b']? =w.heap[b']?) (hsz:w.heap.size≤w'.heap.size)
  (hc:∀j u,cell j u→cell' j u) (hv:lN own ω w ow h E len cell):lN own ω w' ow h E len cell':=by
 cases own with
 | true=>
  rcases hv with h0 | ⟨b0,o,cs,h1,h2,h3,h4,h5,h6,h7⟩
  ·exact .inl h0
  ·have hne:b0≠b:=fun e=>by rw [e,hn] at h2;cases h2
   refine .inr ⟨b0,o,cs,h1,h2,(hs b0 (fm h3) hne).trans h3,h4,h5,h6,fun j hj=> ?_⟩
   obtain ⟨u,hu,hcu⟩:=h7 j hj
   exact ⟨u,hu,hc j u hcu⟩
 | false=>
  refine ⟨hv.1,fun j hj=> ?_⟩
  obtain ⟨b0,o,u,h1,h2,h3,h4,h5⟩:=hv.2 j hj
  have hne:b0≠b:=fun e=>by rw [e,hb] at h4;cases h4
  exact ⟨b0,o,u,h1,h2,Nat.lt_of_lt_of_le h3 hsz,(World.cell?_of_block (hs b0 h3 hne)).trans h4,hc j u h5⟩
theorem Mem.off {b:Nat} {w':World} {ch:Nm→Option Ch} (hb:∀o,w.cell? ⟨b,o,none⟩=none) (hn:ω b=none) (hs:∀b',b' < w.heap.size→b'≠b→w'.heap[b']? =w.heap[b']?) (hsz:w.heap.size≤w'.heap.size) (hm:Mem η ω w ch):Mem η ω w' ch:=by
 refine ⟨fun x c hx=> ?_,hm.2⟩
 obtain ⟨h,h1,h2,h3⟩:=hm.1 x c hx
 refine ⟨h,h1,h2,h3.off hb hn hs hsz fun j u hu=> ?_⟩
 cases hd:c.d with
 | flat l=>rw [hd] at hu;exact hu
 | bR vs=>rw [hd] at hu;exact hu
 | rows E vss holes=>
  rw [hd] at hu
  exact ⟨hu.1,fun hj vs hvs=>have ⟨k1,k2,k3⟩:=hu.2 hj vs hvs;⟨k1,k2,k3.off hb hn hs hsz fun _ _ h=>h⟩⟩
 | mix cs=>rw [hd] at hu;exact ⟨hu.1,fun c hc=>(hu.2 c hc).move rfl fun _ _ _ _ _ h3=>h3.off hb hn hs hsz fun _ _ h=>h⟩
structure qz (P:Program) (k e:TypeId) (b:Nat) (ω:bY) (w:World) (f:Int→Option Int) (n:Nat):Prop where
 free:ω b=none
 map:∃D:DataW Unit,w.ownsMap P k (plainElem P e) b n D∧Maps.IsMap D∧∀z,(Lit.int .i64 z).wf=true→Maps.has D (.int .i64 z)=(f z).isSome∧D.atKey (.int .i64 z) (.lit (.int .i64 0))= .lit (.int .i64 ((f z).getD 0))
theorem qz.lt {k e b n:Nat} {f:Int→Option Int} (h:qz P k e b ω w f n):b < w.heap.size:=by
 obtain ⟨D,hD,_⟩:=h.map
 exact hD.lt
theorem qz.no {k e b n:Nat} {f:Int→Option Int} (h:qz P k e b ω w f n) (o:Nat):w.cell? ⟨b,o,none⟩=none:=by
 obtain ⟨D,⟨es,clock,hb,_⟩,_⟩:=h.map
 simp [World.cell?,hb]
theorem qz.fr {k e b n:Nat} {f:Int→Option Int} (h:qz P k e b ωB wB f n) (hf:Fr ωB wB ω w):qz P k e b ω w f n:=by
 have hb:=hf.block b h.lt h.free
 obtain ⟨D,⟨es,clock,h1,h2⟩,h3⟩:=h.map
 exact ⟨hb.2,D,⟨es,clock,hb.1.trans h1,h2⟩,h3⟩
structure MB (P:Program) (k e:TypeId) (w0:World) (ω0:bY) (b:Nat) (f:Int→Option Int) (n:Nat) (wB:World) (ωB:bY):Prop where
 fr:Fr ω0 w0 ωB wB
 new:w0.heap.size≤b
 at_:qz P k e b ωB wB f n
theorem EL {e:Exit} (hf:Fr ω0.own w0 ωB wB) (h:Fin w0 ω0 nt S e Q):Fin wB ⟨ωB,ω0.ph⟩ nt S e Q:=
 ⟨fun a w ⟨η,ω,hs⟩=>h.go a w ⟨η,ω, { dfr:=hs.dfr,tsz:=hs.tsz,slots:=hs.slots,phs:=hs.phs,mem:=hs.mem,fr:=hf.trans hs.fr }⟩⟩
theorem run_makeMap {T k e:Nat} (hg:o.guard=none) (ho:o=⟨some t, .makeMap T none,ty,ps,af,gd⟩) (ht:Nat.blt t nt=true) (K:P.underlying k=some (.int .i64)) (hT:P.underlying T=some (.map k e))
  (h:∀b wB ωB,MB P k e w0 ω0.own b (fun _=>none) 0 wB ωB→qQ P wB ⟨ωB,ω0.ph⟩ nt ops Q (S.put t (vv (.map (some b)))) rest):qQ P w0 ω0 nt ops Q S (o :: rest):=by
 subst ho
 refine ⟨fun a w ⟨η,ω,hs⟩=>wpList_plain hg fun K' hK'=> ?_⟩
 have hrun:=Go.RowKit.run_makeMap (P:=P) T w
 unfold Oper.wp
 have hex:(execOp a.eval ⟨some t, .makeMap T none,ty,ps,af,gd⟩).run P w= .ok (.value (.map (some w.heap.size))) (w.alloc (.map #[] 0)):=by simp [execOp,hrun]
 rw [hex]
 refine hK' _ _ ?_
 let ω':bY:=fun b=>if b=w.heap.size then none else ω b
 have hheap:∀b,b < w.heap.size→(w.alloc (.map #[] 0)).heap[b]? =w.heap[b]? :=fun b hb=>Below.heap_alloc w _ b hb
 have hsame:∀p:Option (Nm×Option Nat)→Prop,Same ω w ω' (w.alloc (.map #[] 0)) p:=fun p=>⟨by simp,fun b hb _=>⟨hheap b hb,if_neg (Nat.ne_of_lt hb)⟩⟩
 have hmem:Mem η ω' (w.alloc (.map #[] 0)) S.ch:=⟨fun x c hx=>by
  obtain ⟨hd,h1,h2⟩:=hs.mem.1 x c hx
  exact ⟨hd,h1,h2.same (hsame fun _=>True) trivial (fun _=>trivial) (fun _=>rfl) fun l _ a _ y _=> .inr ⟨rfl,fun _=>rfl⟩⟩,hs.mem.2⟩
 have hfr:Fr ω0.own w0 ω' (w.alloc (.map #[] 0)):=hs.fr.trans ⟨rfl,rfl,rfl,by simp,fun b hb hn=>⟨hheap b hb,(if_neg (Nat.ne_of_lt hb)).trans hn⟩⟩
 refine (h w.heap.size (w.alloc (.map #[] 0)) ω' ⟨hfr,hs.fr.size,if_pos rfl, .map [],World.ownsMap_made w P k _,⟨_,rfl⟩,fun z _=>⟨rfl,rfl⟩⟩).go _ _ ⟨η,ω', ?_⟩
 exact dY.fU (w0:=w.alloc (.map #[] 0)) (ω0:=⟨ω',ω0.ph⟩) { dfr:=hs.dfr,tsz:=hs.tsz,slots:=hs.slots,phs:=hs.phs,mem:=hmem,fr:=Fr.refl _ _ } (by simpa using ht) rfl
theorem so {T k e b n:Nat} {m v:Operand} {z r:Int} {f:Int→Option Int} {w00:World} {ω00:bY} {ph:List Value} (hg:o.guard=none) (ho:o.op= .mapUpdate T m x v∨o.op= .insert T m x v) (hd:o.dst=none) (K:P.underlying k=some (.int .i64)) (he:P.underlying e=some (.int .i64)) (hT:P.underlying T=some (.map k e))
  (hB:MB P k e w00 ω00 b f n wB ωB) (hm:S.op m=some (vv (.map (some b)))) (hx:S.op x=some (vv (I6 z))) (hv:S.op v=some (vv (I6 r))) (hz:(Lit.int .i64 z).wf=true) (hr:(Lit.int .i64 r).wf=true) (hn:n≤1000000000)
  (h:∀wB' ωB',MB P k e w00 ω00 b (fun z'=>if z'=z then some r else f z') (n + 1) wB' ωB'→qQ P wB' ⟨ωB',ph⟩ nt ops Q S rest):qQ P wB ⟨ωB,ph⟩ nt ops Q S (o :: rest):=by
 refine ⟨fun a w ⟨η,ω,hs⟩=>wpList_plain hg fun K' hK'=> ?_⟩
 have hA:=hB.at_.fr hs.fr
 obtain ⟨D,hD,hI,hf⟩:=hA.map
 obtain ⟨w',hrun,r1,r2⟩:=hD.update (d:= .lit (.int .i64 r)) (ps:= []) (Maps.int_keyed K) hT (by simp [maxLen];omega) (Maps.keyOf_int_mk K hz) (plainElem_int he hr)
 unfold Oper.wp
 have hex:(execOp a.eval o).run P w= .ok .skip w':=by
  rcases ho with ho | ho<;>simp [execOp,ho,hs.gQ hm,hs.gQ hx,hs.gQ hv,hrun]
 rw [hex]
 refine hK' _ _ ?_
 rw [hd]
 have hs':∀b',b' < w.heap.size→b'≠b→w'.heap[b']? =w.heap[b']? :=fun b' h1 hb'=>r2.block b' h1 (by simpa using hb')
 have hmem:=hs.mem.off hA.no hA.free hs' r2.size
 have hfr:Fr ω00 w00 ω w':=⟨r2.os.trans (hB.fr.trans hs.fr).os,r2.tape.trans (hB.fr.trans hs.fr).tape,r2.output.trans (hB.fr.trans hs.fr).output,Nat.le_trans (hB.fr.trans hs.fr).size r2.size,fun b' hb' hn'=>by
  have h1:=(hB.fr.trans hs.fr).block b' hb' hn'
  have hne:b'≠b:=fun e=>by have:=hB.new;omega
  exact ⟨(hs' b' (Nat.lt_of_lt_of_le hb' (hB.fr.trans hs.fr).size) hne).trans h1.1,h1.2⟩⟩
 refine (h w' ω ⟨hfr,hB.new,hA.free,_,r1,Maps.IsMap.put hI _ _,fun z' hz'=> ?_⟩).go _ _ ⟨η,ω, { dfr:=hs.dfr,tsz:=hs.tsz,slots:=hs.slots,phs:=hs.phs,mem:=hmem,fr:=Fr.refl _ _ }⟩
 by_cases e:z'=z
 ·subst e
  rw [Maps.has_put_same hI (k:= .int .i64 z') trivial,Maps.atKey_put_same hI (k:= .int .i64 z') trivial]
  simp
 ·have hne:Lit.int .i64 z'≠Lit.int .i64 z:=fun h=>by injection h with _ h;exact e h
  rw [Maps.has_put_other hne,Maps.atKey_put_other hne,if_neg e]
  exact hf z' hz'
theorem zm {T k e b n:Nat} {m:Operand} {z:Int} {f:Int→Option Int} {w00:World} {ω00:bY} {ph:List Value} (hg:o.guard=none) (ho:o.op= .lookup T m x true) (hd:o.dst=some t) (ht:Nat.blt t nt=true) (K:P.underlying k=some (.int .i64)) (he:P.underlying e=some (.int .i64)) (hT:P.underlying T=some (.map k e)) (hz0:(P.info? e).bind (·.zero)=some (I6 0))
  (hB:MB P k e w00 ω00 b f n wB ωB) (hm:S.op m=some (vv (.map (some b)))) (hx:S.op x=some (vv (I6 z))) (hz:(Lit.int .i64 z).wf=true)
  (h:qQ P wB ⟨ωB,ph⟩ nt ops Q (S.put t (.tup [.one (.val (I6 ((f z).getD 0))), .one (.val (.bool (f z).isSome))])) rest):qQ P wB ⟨ωB,ph⟩ nt ops Q S (o :: rest):=by
 refine ⟨fun a w ⟨η,ω,hs⟩=>wpList_plain hg fun K' hK'=> ?_⟩
 have hA:=hB.at_.fr hs.fr
 obtain ⟨D,hD,hI,hf⟩:=hA.map
 have hzero:(zeroValue e).run P w= .ok (I6 0) w:=by
  obtain ⟨i,hi,hz⟩:=Option.bind_eq_some_iff.1 hz0
  simp [zeroValue,typeInfo,hi,hz]
 obtain ⟨v,ps,hrun,hv⟩:=hD.look_ok (Maps.int_keyed K) hT hzero (plainElem_int he (by decide)) (Maps.keyOf_int_mk K hz)
 obtain ⟨h1,h2⟩:=hf z hz
 rw [h2] at hv
 obtain ⟨c,rfl,hc,_⟩:=plainElem_int_inv he hv
 simp only [Prod.mk.injEq,DataW.lit.injEq,Lit.int.injEq,true_and] at hc
 rw [h1,←hc.1] at hrun
 unfold Oper.wp
 have hex:(execOp a.eval o).run P w= .ok (.value (.tuple #[I6 ((f z).getD 0), .bool (f z).isSome])) w:=by
  simp [execOp,ho,hs.gQ hm,hs.gQ hx,hrun]
 rw [hex]
 refine hK' _ _ (h.go _ _ ⟨η,ω, ?_⟩)
 rw [hd]
 refine hs.fU (by simpa using ht) ⟨_,rfl,rfl,fun j b hj=> ?_⟩
 match j,hj with
 | 0,hj=>simp at hj;subst hj;exact ⟨_,by simp,rfl⟩
 | 1,hj=>simp at hj;subst hj;exact ⟨_,by simp,rfl⟩
def uO {ι:Type} (ph:List Value) (nt:Nat) (I:ι→St) (p:ι→World→bY→Prop) (μ:ι→Nat) (i:ι) (a:Act) (w:World):Prop:=∃j wB ωB,p j wB ωB∧μ j < μ i∧Sat wB ⟨ωB,ph⟩ nt (I j) a w
open Classical in
theorem ti {ι:Type} {ph:List Value} (I:ι→St) (p:ι→World→bY→Prop) (μ:ι→Nat) (i0:ι) {c:Code} (hp:p i0 wB ωB) (h0:Wk S (I i0)) (hr:∀i wB ωB,p i wB ωB→fJ P wB ⟨ωB,ph⟩ nt (I i) c (Exit.then (uO ph nt I p μ i) Q)):fJ P wB ⟨ωB,ph⟩ nt S (.loop c) Q:=by
 refine ⟨fun a w hs=> ?_⟩
 let R:Act→World→ι→Prop:=fun a w i=>∃wB ωB,p i wB ωB∧Sat wB ⟨ωB,ph⟩ nt (I i) a w
 have ex:∀a w,(∃i,R a w i)→∃n i,R a w i∧μ i=n:=fun a w ⟨i,hi⟩=>⟨μ i,i,hi,rfl⟩
 refine wp_loop (fun a w=>∃i,R a w i) (fun a w=>if h:∃i,R a w i then Classical.choose (least (ex a w h)) else 0) ⟨i0,wB,ωB,hp,h0.go _ _ _ a w hs⟩ fun a w hI=> ?_
 obtain ⟨⟨i,⟨wB',ωB',hi1,hi2⟩,hm⟩,_⟩:=Classical.choose_spec (least (ex a w hI))
 refine Code.wp_mono (fun e a' w' hq=> ?_) ((hr i wB' ωB' hi1).go a w hi2)
 cases e with
 | normal=>
  obtain ⟨j,wB2,ωB2,hpj,hj,hsj⟩:=hq
  have hR:R a' w' j:=⟨wB2,ωB2,hpj,hsj⟩
  refine ⟨⟨j,hR⟩, ?_⟩
  simp only [dif_pos hI,dif_pos (⟨j,hR⟩:∃i,R a' w' i)]
  refine Nat.lt_of_le_of_lt ((Classical.choose_spec (least (ex a' w' ⟨j,hR⟩))).2 _ ⟨j,hR,rfl⟩) ?_
  rw [←hm];exact hj
 | _=>exact hq
theorem rR {ι:Type} {ph:List Value} {I:ι→St} {p:ι→World→bY→Prop} {μ:ι→Nat} {i:ι} (j:ι) (hp:p j wB ωB) (hm:μ j < μ i) (h:Wk S (I j)):Fin wB ⟨ωB,ph⟩ nt S .normal (Exit.then (uO ph nt I p μ i) Q):=
 ⟨fun a w hs=>⟨j,wB,ωB,hp,hm,h.go _ _ _ a w hs⟩⟩
theorem zJ {ph:List Value} (S':St) (p:World→bY→Prop) {c:Operand} {x y:Code} {b:Bool} (hc:S.op c=some (vv (.bool b)))
  (ht:b=true→fJ P wB ⟨ωB,ph⟩ nt S x (fun e a w=>e= .normal∧∃wB ωB,p wB ωB∧Sat wB ⟨ωB,ph⟩ nt S' a w)) (hf:b=false→fJ P wB ⟨ωB,ph⟩ nt S y (fun e a w=>e= .normal∧∃wB ωB,p wB ωB∧Sat wB ⟨ωB,ph⟩ nt S' a w))
  (k:∀wB ωB,p wB ωB→Fin wB ⟨ωB,ph⟩ nt S' .normal Q):fJ P wB ⟨ωB,ph⟩ nt S (.cond c x y) Q:=
 ax hc (fun h=>⟨fun a w hs=>Code.wp_mono (fun e a w he=>by obtain ⟨rfl,wB',ωB',h1,h2⟩:=he;exact (k wB' ωB' h1).go a w h2) ((ht h).go a w hs)⟩)
  (fun h=>⟨fun a w hs=>Code.wp_mono (fun e a w he=>by obtain ⟨rfl,wB',ωB',h1,h2⟩:=he;exact (k wB' ωB' h1).go a w h2) ((hf h).go a w hs)⟩)
theorem uG {ph:List Value} {S':St} {p:World→bY→Prop} (hp:p wB ωB) (h:Wk S1 S'):Fin wB ⟨ωB,ph⟩ nt S1 .normal (fun e a w=>e= .normal∧∃wB ωB,p wB ωB∧Sat wB ⟨ωB,ph⟩ nt S' a w):=⟨fun a w hs=>⟨rfl,wB,ωB,hp,h.go _ _ _ a w hs⟩⟩
end
end Go.Proofs.YtekbhbcgoadciaaGreat
