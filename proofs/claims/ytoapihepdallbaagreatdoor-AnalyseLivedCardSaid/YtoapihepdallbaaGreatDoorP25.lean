import Derived.Test.YtoapihepdallbaaGreatDoorP24
namespace Go.Proofs.YtoapihepdallbaaGreatDoor
open Go.RowKit
theorem Y8a:(Tryz.prog.info? 155).map (fun i=>(i.zero,i.size,i.bytes))=some (some (.slice none 0 0),1,24):=by kernel_rfl
theorem Eh.Y6g{w:World}{g:J4}(h:Eh w g):∃vs:List Value,vs.length=g.len/\∀j u,vs[j]? =some u->w.cell? ⟨g.ib,g.off+j,none⟩=some u/\∃b c,u=.slice (some ⟨b,0,none⟩) 256 c:=by
 have key:∀n,n<=g.len->∃vs:List Value,vs.length=n/\∀j u,vs[j]? =some u->w.cell? ⟨g.ib,g.off+j,none⟩=some u/\∃b c,u=.slice (some ⟨b,0,none⟩) 256 c:=by
  intro n
  induction n with
  |zero=>intro _;exact⟨[],rfl,fun j u hu=>by simp at hu⟩
  |succ n ih=>
   intro hn
   obtain⟨vs,hl,hv⟩:=ih (by omega)
   obtain⟨b,c,hc⟩:=h.all n (by omega)
   refine⟨vs++[.slice (some ⟨b,0,none⟩) 256 c],by simp[hl],fun j u hu=> ?_⟩
   rcases Nat.lt_or_ge j vs.length with hj|hj
   ·rw[List.getElem?_append_left hj]at hu
    exact hv j u hu
   ·rw[List.getElem?_append_right hj]at hu
    obtain⟨rfl,rfl⟩:j=n/\u=.slice (some ⟨b,0,none⟩) 256 c:=by
     rcases Nat.eq_zero_or_pos (j - vs.length) with h0|h0
     ·rw[h0]at hu;simp at hu;exact⟨by omega,hu.symm⟩
     ·rw[List.getElem?_eq_none (by simp;omega)]at hu;cases hu
    exact⟨hc,b,c,rfl⟩
 exact key g.len (Nat.le_refl _)
theorem Y3t{w:World}{ib off:Nat}{vs:List Value}(h:∀j u,vs[j]? =some u->w.cell? ⟨ib,off+j,none⟩=some u/\∃b c,u=.slice (some ⟨b,0,none⟩) 256 c):∀u∈vs,u.oneCell'=true:=fun u hu=>by
 obtain⟨j,hj⟩:=List.mem_iff_getElem?.1 hu
 obtain⟨_,b,c,rfl⟩:=h j u hj
 rfl
theorem Q9s{w:World}{base n cap g:Nat}{e:TypeId}{xs:List Value}(h:w.ownsRow base e 1 (.slice (some ⟨g,0,none⟩) n cap) n xs){j:Nat}{u:Value}(hu:xs[j]? =some u):w.cell? ⟨g,j,none⟩=some u:=by
 have:=h.cells (g:=g) rfl j u hu
 have hadd:(⟨g,0,none⟩:Addr).add j=⟨g,j,none⟩:=by unfold Addr.add;split<;>simp_all
 rwa [hadd]at this
def Qw.put(D:Qw)(i:Nat)(g:J4):Qw:=⟨D.db,D.sr,D.cap,D.s.set i g,max D.vm g.len⟩
theorem Qw.Y8f(D:Qw)(i:Nat)(g:J4):(D.put i g).c=D.c.set i g.f:=by unfold Qw.put Qw.c;rw[List.map_set]
theorem Zb.store{D:Qw}{w W:World}{i:Nat}{g:J4}(h:Zb D w)(hb:Below w.heap.size w W)(hs:Eh (W.setCell ⟨D.sr,i,none⟩ (Dp g)) g)(h1:g.ib≠D.sr/\g.ib≠D.db/\g.vb≠D.sr/\g.vb≠D.db):
  Zb (D.put i g) (W.setCell ⟨D.sr,i,none⟩ (Dp g)):=by
 obtain⟨cs,hc,hall⟩:=h.row
 have hc':=up hb hc
 have hset:=Qn hc' i (Dp g)
 have hsz:cs.size>=D.s.length:=by
  rcases Nat.lt_or_ge cs.size D.s.length with hlt|hge
  ·have:=hall cs.size hlt
   rw[Array.getElem?_eq_none (Nat.le_refl _)]at this
   cases this
  ·exact hge
 have hk:Kp (fun q=>q=D.sr) W (W.setCell ⟨D.sr,i,none⟩ (Dp g)):=Kp.setCell W ⟨D.sr,i,none⟩ (Dp g)
 have hlen:(D.put i g).s.length=D.s.length:=List.length_set ..
 have hold:∀x∈D.s,Eh (W.setCell ⟨D.sr,i,none⟩ (Dp g)) x:=fun x hx=>by
  obtain⟨a1,a2,a3,a4⟩:=h.apart x hx
  have hs0:=h.Y3h x hx
  exact(hs0.kp (Kp.Qi hb (fun _=>False)) id id).kp hk a1 a3
 refine⟨?_,by rw[hlen];exact h.fits,h.few,⟨_,hset,fun j hj=> ?_⟩,fun x hx=> ?_,fun x hx=> ?_,h.ne,fun x hx=> ?_⟩
 ·rw[hlen]
  exact hk.at (up hb h.blk) h.ne
 ·have hj':j<D.s.length:=by rw[hlen]at hj;exact hj
  rw[Array.getElem?_setIfInBounds]
  have hget:(D.put i g).s[j]=if i=j then g else D.s[j]:=List.getElem_set ..
  rw[hget]
  by_cases he:i=j
  ·rw[if_pos he,if_pos he,if_pos (by omega)]
  ·rw[if_neg he,if_neg he]
   exact hall j hj'
 ·rcases List.mem_or_eq_of_mem_set hx with hx|rfl
  ·exact hold x hx
  ·exact hs
 ·show x.len<=max D.vm g.len
  rcases List.mem_or_eq_of_mem_set hx with hx|rfl
  ·have:=h.Q5u x hx;omega
  ·omega
 ·rcases List.mem_or_eq_of_mem_set hx with hx|rfl
  ·exact h.apart x hx
  ·exact h1
abbrev X4s(v:Value):List Value:=[v]
theorem Y1s(l:List Value):flat X4s l=l:=by
 induction l with
 |nil=>rfl
 |cons x l ih=>show [x]++flat X4s l=x::l;rw[ih];rfl
theorem Eh.made{w w2:World}{sr i g m cap bv cv:Nat}{vs:List Value}{f:List Int}(hlt:sr<w.heap.size)(hm:1<=m)(hvl:vs.length=m)(hvs:∀(j:Nat) (u:Value),vs[j]? =some u->∃b c,u=Value.slice (some ⟨b,0,none⟩) 256 c)
  (how:w2.ownsRow w.heap.size 155 1 (.slice (some ⟨g,0,none⟩) (m+1) cap) (m+1) (vs++[Value.slice (some ⟨bv,0,none⟩) 256 cv])) (hb:Own Yx 1 5 w.heap.size w2 (.slice (some ⟨bv,0,none⟩) 256 cv) f) (u:Value):
  Eh (w2.setCell ⟨sr,i,none⟩ u) ⟨g,0,m+1,cap,bv,cv,f⟩:=by
 have hown:Own X4s 1 155 w.heap.size w2 (.slice (some ⟨g,0,none⟩) (m+1) cap) (vs++[Value.slice (some ⟨bv,0,none⟩) 256 cv]):=by
  unfold Own
  rw[Y1s,List.length_append,hvl]
  exact how
 obtain⟨A,c,he,h1,h2⟩:=hown.slice
 injection he with _ _ hc
 subst hc
 rw[List.length_append,hvl,List.length_singleton]at h1
 have hg:=(hown.lt g rfl).1
 have hv:=(hb.lt bv rfl).1
 have hs:Eh w2 ⟨g,0,m+1,cap,bv,cv,f⟩:=by
  have hcell:∀j u,(vs++[Value.slice (some ⟨bv,0,none⟩) 256 cv])[j]? =some u->w2.cell? ⟨g,0+j,none⟩=some u:=fun j u hu=>by rw[Nat.zero_add];exact Q9s how hu
  refine⟨by show 1<=m+1;omega,h1,h2,fun k hk=> ?_,?_,hb.mono (Nat.zero_le _)⟩
  ·have hk':k<m+1:=hk
   rcases(by omega:k<m\/k=m) with h|h
   ·obtain⟨u,hu⟩:∃u,vs[k]? =some u:=⟨_,List.getElem?_eq_getElem (by omega)⟩
    obtain⟨b,c,rfl⟩:=hvs k u hu
    exact⟨b,c,hcell k _ (by rw[List.getElem?_append_left (by omega)];exact hu)⟩
   ·subst h
    exact⟨bv,cv,hcell k _ (by rw[List.getElem?_append_right (by omega),hvl,Nat.sub_self];rfl)⟩
  ·show w2.cell? ⟨g,0+(m+1 - 1),none⟩=_
   exact hcell _ _ (by rw[List.getElem?_append_right (by omega),hvl,Nat.add_sub_cancel,Nat.sub_self];rfl)
 exact hs.kp (S:=fun q=>q=sr) (Kp.setCell w2 ⟨sr,i,none⟩ u) (by show ¬g=sr;omega) (by show ¬bv=sr;omega)
theorem G9{w X W:World}(h:Below w.heap.size w X)(k:Below X.heap.size X W):Below w.heap.size w W:=h.trans (k.mono h.size)
theorem Y8d{w:World}{b:Nat}{v:Value}{vs:List Value}{m:Nat}(h:Own X4s 1 155 b w v vs)(hm:vs.length=m):w.ownsRow b 155 1 v m vs:=by
 have:=h.rows hm
 rwa [Y1s]at this
theorem Y8k{w:World}{b:Nat}{v:Value}{vs:List Value}{m:Nat}(h:w.ownsRow b 155 1 v m vs)(hm:vs.length=m):Own X4s 1 155 b w v vs:=by
 unfold Own
 rw[Y1s,hm]
 exact h
theorem Q5x{w W w2:World}{ga ca g2 c2 m bv cv:Nat}{vs:List Value}{f:List Int}(hq:Below w.heap.size w W)(ha:Own X4s 1 155 w.heap.size W (.slice (some ⟨ga,0,none⟩) m ca) vs)(hb:Own Yx 1 5 w.heap.size W (.slice (some ⟨bv,0,none⟩) 256 cv) f)(hap:ga≠bv)
  (how:w2.ownsRow w.heap.size 155 1 (.slice (some ⟨g2,0,none⟩) (m+1) c2) (m+1) (vs++[Value.slice (some ⟨bv,0,none⟩) 256 cv])) (hgr:W.grownBy w2 (Value.slice (some ⟨ga,0,none⟩) m ca).ownBlock):
  Below w.heap.size w w2/\w2.ownsRow w.heap.size 155 1 (.slice (some ⟨g2,0,none⟩) (m+1) c2) (m+1) (vs++[Value.slice (some ⟨bv,0,none⟩) 256 cv])/\Own Yx 1 5 w.heap.size w2 (.slice (some ⟨bv,0,none⟩) 256 cv) f:=
 ⟨hq.grown hgr hq.size (fun k hk=>by injection hk with hk;subst hk;exact(ha.lt _ rfl).1),how,hb.kept hgr (.inr (fun he=>by injection he with he;exact hap he.symm))⟩
theorem Q2u{D:Qw}{w w2:World}{i:Nat}{g:J4}{u:Value}(hz:Zb (D.put i g) (w2.setCell ⟨D.sr,i,none⟩ u))(hb:Below w.heap.size w w2)(hg:w.heap.size<=g.ib)(hv:w.heap.size<=g.vb):
  Q8 (Qo D) (Qo (D.put i g)) w (w2.setCell ⟨D.sr,i,none⟩ u):=
 ⟨hz,(Kp.Qi hb _).trans (Kp.setCell w2 ⟨D.sr,i,none⟩ u) (fun q hq=> .inl (.inr (.inl hq))),fun q hq=>by
  rcases hq with hq|hq|⟨x,hx,hq⟩
  ·exact .inl (.inl hq)
  ·exact .inl (.inr (.inl hq))
  ·rcases List.mem_or_eq_of_mem_set hx with hx|rfl
   ·exact .inl (.inr (.inr ⟨x,hx,hq⟩))
   ·right
    rcases hq with rfl|rfl
    ·exact hg
    ·exact hv⟩
set_option maxRecDepth 4000 in
set_option maxHeartbeats 4000000 in
theorem V9(D:Qw)(w:World)(i:Nat)(v:Value)(f:List Int)(h:Zb D w)(hi:i<D.s.length)(hv:RdB w v f)(hf:f.length=256)(hvm:D.vm<=1000000):
  Calls Tryz.prog 89 #[.pointer (some ⟨D.db,0,none⟩),.int .i64 i,v] w fun e w'=>e=.returned (.int .i64 0)/\∃D',Q8 (Qo D) (Qo D') w w'/\D'.db=D.db/\D'.c=D.c.set i f/\D'.vm<=D.vm+1:=by
 obtain⟨i0,hi0,hz0,hz1,hz2⟩:=info_parts Y8a
 obtain⟨A,c,rfl⟩:=hv.slice
 rw[hf]at hv ⊢
 have HD:=Q0 h
 obtain⟨c0,c1,c2,lt⟩:=h.cells
 obtain⟨s0,hs0⟩:∃s0,D.s[i]? =some s0:=⟨_,List.getElem?_eq_getElem hi⟩
 obtain⟨d0,hs⟩:=h.sec hs0
 have hfit:=h.fits
 have hfew:=h.few
 obtain⟨vs,hvl,hvs⟩:=hs.Y6g
 have hone:=Y3t hvs
 have hs1:=hs.some_
 have hs2:=hs.fits
 have hs3:=h.Q5u s0 (List.mem_of_getElem? hs0)
 have HI:=Q0 hi
 have HVM:=Q0 hs3
 obtain⟨db,hdb⟩:∃db,D.db=db:=⟨_,rfl⟩
 obtain⟨sr,hsr⟩:∃sr,D.sr=sr:=⟨_,rfl⟩
 have HDB:=Q0 hdb
 have HSR:=Q0 hsr
 obtain⟨n,hn⟩:∃n,D.s.length=n:=⟨_,rfl⟩
 obtain⟨cap,hcap⟩:∃cap,D.cap=cap:=⟨_,rfl⟩
 obtain⟨m,hm⟩:∃m,s0.len=m:=⟨_,rfl⟩
 unfold Dp at d0
 rw[hm]at d0 hs1 hs2 hs3 hvl HVM
 rw[hn,hcap,hsr,hdb]at c0
 rw[hdb]at c2 lt ⊢
 rw[hsr]at d0
 rw[hn]at hi hfit
 rw[hcap]at hfit hfew
 obtain⟨ib,hib⟩:∃ib,s0.ib=ib:=⟨_,rfl⟩
 obtain⟨off,hoff⟩:∃off,s0.off=off:=⟨_,rfl⟩
 obtain⟨gc,hgc⟩:∃gc,s0.cap=gc:=⟨_,rfl⟩
 rw[hib,hoff,hgc]at d0
 rw[hgc]at hs2
 rw[hib,hoff]at hvs
 have l1:=World.block_lt_of_cell? _ _ d0
 have HSRL:Sc (sr<w.heap.size):=⟨l1⟩
 have HNE:Sc (sr≠db):=⟨fun he=>HD.o.ne (by rw[HDB.o,HSR.o,he])⟩
 have HVS:=Q0 hvs
 have HV:=Q0 hv
 have HF:=Q0 hf
 have HM1:=Q0 hs1
 have HMV:Sc (vs.length=m):=⟨hvl⟩
 have HMX:Sc (m<=maxLen):=⟨by unfold maxLen;omega⟩
 have HMX1:Sc (m+1<=maxLen):=⟨by unfold maxLen;omega⟩
 have HMB:Sc (m*24<=140737488355328):=⟨by omega⟩
 have HMB1:Sc ((m+1)*24<=140737488355328):=⟨by omega⟩
 have HONE:=Q0 hone
 have HNEWS:Sc (∀X,Below w.heap.size w X->∀j u,vs[j]? =some u->X.cell? ((⟨ib,off,none⟩:Addr).add j)=some u):=⟨fun X hX j u hu=>by
  have h1:=(hvs j u hu).1
  have hadd:(⟨ib,off,none⟩:Addr).add j=⟨ib,off+j,none⟩:=by unfold Addr.add;split<;>simp_all
  rw[hadd]
  exact(hX.cell (World.block_lt_of_cell? _ _ h1)).trans h1⟩
 have HSW:Sc (∀W,Below w.heap.size w W->W.cell? ⟨db,0,none⟩=some (.slice (some ⟨sr,0,none⟩) n cap)/\W.cell? ⟨sr,i,none⟩=some (.slice (some ⟨ib,off,none⟩) m gc)):=⟨fun W hW=>⟨(hW.cell lt).trans c0,(hW.cell l1).trans d0⟩⟩
 have HFR:Sc (∀W,Below w.heap.size w W->W.frozen? ⟨sr,i,none⟩=false):=⟨fun W hW=>by
  obtain⟨cs,hc,_⟩:=HD.o.row
  rw[HSR.o]at hc
  exact Q2 (up hW hc) i⟩
 have CN:Sc (∀X,Below w.heap.size w X->Calls Tryz.prog 131 #[.slice A 256 c] X fun e w'=>∃b k,e=.returned (.slice (some ⟨b,0,none⟩) 256 k)/\Own Yx 1 5 w.heap.size w' (.slice (some ⟨b,0,none⟩) 256 k) f/\X.heap.size<=b/\Below X.heap.size X w'/\Below w.heap.size w w'):=⟨fun X hX=>(Gg X _ f (HV.o.bel hX) (by rw[HF.o];omega)).mono fun e w' ⟨v,he,ho,hb⟩=>by
  obtain⟨g,k,rfl,_⟩:=ho.form (by rw[HF.o];omega)
  rw[HF.o]at ho he
  exact⟨g,k,he,ho.mono hX.size,(ho.lt g rfl).1,hb,hX.trans (hb.mono hX.size)⟩⟩
 have hi1:(i:Int)<n:=by omega
 have hi2:¬((n:Int)<=i):=by omega
 have dd1:decide ((i:Int)<0)=false:=decide_eq_false (by omega)
 have dd2:decide ((n:Int)<=i)=false:=decide_eq_false hi2
 clear h hs0 c1 hs hn hcap hsr hdb hm hib hoff hgc hs1 hs2 hs3 hvs hone hvl hv hf hvm
 go_enter Tryz.func89,Tryz.ntmps89
 go_wp2_with fail
 have HQ:Sc (Below w.heap.size w w):=⟨Below.refl _ _⟩
 have hcA:(w.alloc (.cells #[] 155)).cell? ⟨sr,i,none⟩=some (.slice (some ⟨ib,off,none⟩) m gc):=(HSW.o _ (Q3 HQ.o _)).2
 have hcB:(w.alloc (.cells #[] 155)).cell? ⟨db,0,none⟩=some (.slice (some ⟨sr,0,none⟩) n cap):=(HSW.o _ (Q3 HQ.o _)).1
 go_region_law
  (first
   |(go_simp;go_at_call 131;go_loud (refine(CN.o _ (by first|with_reducible exact HQ.o|with_reducible exact Q3 HQ.o _|with_reducible exact Q3 (Q3 HQ.o _) _|with_reducible exact Below.drew HQ.o|with_reducible exact Below.drew (Q3 HQ.o _)|with_reducible exact Below.drew (Q3 (Q3 HQ.o _) _))).mono ?_;rintro e wt ⟨bv,cv,rfl,ho,hbv,hq2,hq⟩;have HAP:=Q0 (show ga≠bv from fun he=>by have h1:=(HA.o.lt ga rfl).2;omega);have HA:=Q0 (HA.o.below hq2);have HQ:=Q0 hq;have HB:=Q0 ho;have hcC:=(HSW.o _ hq).1;have hcD:=(HSW.o _ (Q3 hq (.cells #[.slice (some ⟨bv,0,none⟩) 256 cv] 155))).1;clear hq ho hq2 hbv))
   |(refine Q0r rfl _ (.tmp 40) 156 (by rfl) 155 i0 (.slice none 0 0) 1 24 Tryz.underlying156 hi0 hz0 hz1 hz2 rfl (by decide) _ (by rfl) ⟨ib,off,none⟩ m gc vs (by rfl) (by rw[HMV.o,Nat.mul_one]) (HNEWS.o _ (by first|with_reducible exact HQ.o|with_reducible exact Q3 HQ.o _|with_reducible exact Q3 (Q3 HQ.o _) _|with_reducible exact Below.drew HQ.o|with_reducible exact Below.drew (Q3 HQ.o _)|with_reducible exact Below.drew (Q3 (Q3 HQ.o _) _))) HONE.o HM1.o HMX.o HMB.o ?_;intro ga ca wt how hbt;have HA:Sc (Own X4s 1 155 w.heap.size wt (.slice (some ⟨ga,0,none⟩) m ca) vs):=⟨(Y8k how HMV.o).mono (by first|with_reducible exact Below.size (HQ.o)|with_reducible exact Below.size (Q3 HQ.o _)|with_reducible exact Below.size (Q3 (Q3 HQ.o _) _)|with_reducible exact Below.size (Below.drew HQ.o)|with_reducible exact Below.size (Below.drew (Q3 HQ.o _))|with_reducible exact Below.size (Below.drew (Q3 (Q3 HQ.o _) _)))⟩;have HQ:Sc (Below w.heap.size w wt):=⟨(by first|with_reducible exact G9 (HQ.o) hbt|with_reducible exact G9 (Q3 HQ.o _) hbt|with_reducible exact G9 (Q3 (Q3 HQ.o _) _) hbt|with_reducible exact G9 (Below.drew HQ.o) hbt|with_reducible exact G9 (Below.drew (Q3 HQ.o _)) hbt|with_reducible exact G9 (Below.drew (Q3 (Q3 HQ.o _) _)) hbt)⟩;have hcE:=(HSW.o _ HQ.o).1;clear how hbt)
   |(refine step_append_lies _ rfl (.tmp 41) (.tmp 44) 156 (by rfl) w.heap.size 155 i0 (.slice none 0 0) 1 24 Tryz.underlying156 hi0 hz0 hz1 hz2 rfl (by decide) (.slice (some ⟨ga,0,none⟩) m ca) m vs (by rfl) (by first|with_reducible exact Y8d HA.o HMV.o|with_reducible exact Y8d (HA.o.alloc _) HMV.o) ⟨_,0,none⟩ 1 1 (#[Value.slice (some ⟨bv,0,none⟩) 256 cv]:Array Value).toList (by rfl) (by rfl) (World.news_of_block (by first|with_reducible exact heap_alloc_new _ _)) (fun u hu=>by simp at hu;subst hu;rfl) Nat.one_pos HMX1.o HMB1.o (by first|with_reducible exact HQ.o.size|with_reducible exact(Q3 HQ.o _).size) _ rfl ?_;intro g2 c2 w2 how hgr hat hlt2;have HE:=Q0 (show _/\_/\_ from by first|with_reducible exact Q5x HQ.o HA.o HB.o HAP.o how hgr|with_reducible exact Q5x (Q3 HQ.o _) (HA.o.alloc _) (HB.o.alloc _) HAP.o how hgr);have hfz:=HFR.o _ HE.o.1;have hcz:=(HSW.o _ HE.o.1).2;have hcF:=(HSW.o _ HE.o.1).1;have HDS:Sc ((w2.setCell ⟨sr,i,none⟩ (.slice (some ⟨g2,0,none⟩) (m+1) c2)).cell? ⟨db,0,none⟩=some (.slice (some ⟨sr,0,none⟩) n cap)):=⟨by rw[World.cell?_setCell_far _ _ _ _ (show sr≠db from HNE.o)];exact(HSW.o _ HE.o.1).1⟩;clear how hgr hat hlt2))
 all_goals
  have HG:=Q0 (Eh.made (i:=i) HSRL.o HM1.o HMV.o (fun j u hu=>(HVS.o j u hu).2) HE.o.2.1 HE.o.2.2 (.slice (some ⟨g2,0,none⟩) (m+1) c2))
  have HZ:Sc (Zb (D.put i ⟨g2,0,m+1,c2,bv,cv,f⟩) (w2.setCell ⟨sr,i,none⟩ (.slice (some ⟨g2,0,none⟩) (m+1) c2))/\Q8 (Qo D) (Qo (D.put i ⟨g2,0,m+1,c2,bv,cv,f⟩)) w (w2.setCell ⟨sr,i,none⟩ (.slice (some ⟨g2,0,none⟩) (m+1) c2))):=⟨by
   have hg2:w.heap.size<=g2:=((Y8k (vs:=vs++[Value.slice (some ⟨bv,0,none⟩) 256 cv]) HE.o.2.1 (by rw[List.length_append,HMV.o];rfl)).lt g2 rfl).1
   have hb2:w.heap.size<=bv:=(HE.o.2.2.lt bv rfl).1
   have h1:=HSRL.o
   have h2:=HD.o.cells.2.2.2
   have h3:=HSR.o
   have hz:=Zb.store (i:=i) HD.o HE.o.1 (g:=⟨g2,0,m+1,c2,bv,cv,f⟩) (by rw[HSR.o];exact HG.o) ⟨by rw[HSR.o];show g2≠sr;omega,by show g2≠D.db;omega,by rw[HSR.o];show bv≠sr;omega,by show bv≠D.db;omega⟩
   have hl:=Q2u hz HE.o.1 hg2 hb2
   rw[HSR.o]at hz hl
   exact⟨hz,hl⟩⟩
  have HBURN:Sc (Calls Tryz.prog 132 #[.pointer (some ⟨db,0,none⟩)] (w2.setCell ⟨sr,i,none⟩ (.slice (some ⟨g2,0,none⟩) (m+1) c2)) fun e w'=>e=.returned (.bool true)/\(w2.setCell ⟨sr,i,none⟩ (.slice (some ⟨g2,0,none⟩) (m+1) c2))=w'):=⟨by have:=Cw _ _ HZ.o.1;rw[show(D.put i ⟨g2,0,m+1,c2,bv,cv,f⟩).db=db from HDB.o]at this;exact this⟩
  go_wp2_with fail
  refine HBURN.o.mono ?_
  rintro e w' ⟨rfl,rfl⟩
  go_wp2
  go_ret
  exact⟨rfl,D.put i ⟨g2,0,m+1,c2,bv,cv,f⟩,HZ.o.2,HDB.o,D.Y8f i _,by have:=HVM.o;show max D.vm (m+1)<=D.vm+1;omega⟩
end Go.Proofs.YtoapihepdallbaaGreatDoor
