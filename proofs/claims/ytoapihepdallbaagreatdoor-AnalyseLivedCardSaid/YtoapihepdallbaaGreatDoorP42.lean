import Derived.Test.YtoapihepdallbaaGreatDoorP41
namespace Go.Proofs.YtoapihepdallbaaGreatDoor
open Go.RowKit
def X4i(w:World)(q:Nat):Prop:=w.heap[q]? =some (.cells #[.slice (some ⟨q - 1,0,none⟩) 256 256] 155 (0,0))/\w.heap[q - 1]? =some (.cells Vf 5 (0,0))
structure Q1r(b k:Nat)(w:World)(A:Option Addr)(c:Nat)(l:List Nat):Prop where
 blk:w.heap[b]? =some (.cells #[.slice A k c,.int .i64 (-1),.bool false] 144 (0,0))
 ne:(Value.slice A k c).ownBlock≠some b
 low:∀q,(Value.slice A k c).ownBlock=some q->b<=q
 own:Own Dn 1 156 0 w (.slice A k c) l
 len:l.length=k
 Q5u:∀q∈l,X4i w q/\b+1<q/\q<w.heap.size/\(Value.slice A k c).ownBlock≠some q/\(Value.slice A k c).ownBlock≠some (q - 1)
theorem Q1r.app{b k c g cap:Nat}{wr W w2:World}{A:Option Addr}{l:List Nat}(h:Q1r b k wr A c l)(hb:Below wr.heap.size wr W)(hz:X4i W (wr.heap.size+1))(hzs:wr.heap.size+1<W.heap.size)(hown:w2.ownsRow 0 156 1 (.slice (some ⟨g,0,none⟩) (k+1) cap) (k+1) (flat Dn l++Dn (wr.heap.size+1)))(hg:W.grownBy w2 (Value.slice A k c).ownBlock)(hat:(Value.slice A k c).ownBlock=some g\/W.heap.size<=g):
  w2.heap[b]? =some (.cells #[.slice A k c,.int .i64 (-1),.bool false] 144 (0,0))/\Q1r b (k+1) (w2.setCell ⟨b,0,none⟩ (.slice (some ⟨g,0,none⟩) (k+1) cap)) (some ⟨g,0,none⟩) cap (l++[wr.heap.size+1])/\Below b wr (w2.setCell ⟨b,0,none⟩ (.slice (some ⟨g,0,none⟩) (k+1) cap)):=by
 have hlb:=Q6 h.blk
 have hW:=up hb h.blk
 have hc2:w2.heap[b]? =some (.cells #[.slice A k c,.int .i64 (-1),.bool false] 144 (0,0)):=(hg.block b (Q6 hW) (fun he=>h.ne he.symm)).trans hW
 have hrow:∀q,(Value.slice A k c).ownBlock=some q->q<wr.heap.size:=fun q hq=>(h.own.lt q hq).2
 have hne:g≠b:=by
  rcases hat with h1|h1
  ·intro he;subst he;exact h.ne h1
  ·have:=Q6 hW;omega
 have hgB:b<=g:=by
  rcases hat with h1|h1
  ·exact h.low g h1
  ·have:=hb.size;omega
 have ho:Own Dn 1 156 0 w2 (.slice (some ⟨g,0,none⟩) (k+1) cap) (l++[wr.heap.size+1]):=Own.Qv hown (by simp[h.len]) (by rw[Qc,Qm])
 have hkeep:∀q o,W.heap[q]? =some o->q≠b->(Value.slice A k c).ownBlock≠some q->(w2.setCell ⟨b,0,none⟩ (.slice (some ⟨g,0,none⟩) (k+1) cap)).heap[q]? =some o:=fun q o hq h1 h2=>
  E6 ((hg.block q (Q6 hq) (fun he=>h2 he.symm)).trans hq) (fun he=>h1 he.symm)
 have hgq:∀q,q<W.heap.size->(Value.slice A k c).ownBlock≠some q->g≠q:=fun q h1 h2 he=>by
  rcases hat with h3|h3
  ·rw[he]at h3;exact h2 h3
  ·omega
 refine⟨hc2,⟨by rw[Qn hc2 0 _];rfl,fun he=>hne (by injection he),fun q hq=>by injection hq with hq;rw[<-hq];exact hgB,ho.kp (Kp.setCell w2 _ _) (fun q hq he=>by injection hq with hq;exact hne (hq.trans he)),by simp[h.len],fun q hq=> ?_⟩,?_⟩
 ·have hsz:W.heap.size<=(w2.setCell ⟨b,0,none⟩ (.slice (some ⟨g,0,none⟩) (k+1) cap)).heap.size:=by simp;exact hg.size
  rcases List.mem_append.1 hq with hq|hq
  ·obtain⟨⟨v1,v2⟩,v3,v4,v5,v6⟩:=h.Q5u q hq
   have hq1:q - 1<wr.heap.size:=by omega
   have:=hb.size
   exact⟨⟨hkeep q _ (up hb v1) (by omega) v5,hkeep (q - 1) _ (up hb v2) (by omega) v6⟩,v3,by omega,fun he=>hgq q (by omega) v5 (by injection he),fun he=>hgq (q - 1) (by omega) v6 (by injection he)⟩
  ·rw[List.mem_singleton]at hq
   subst hq
   have n1:(Value.slice A k c).ownBlock≠some (wr.heap.size+1):=fun he=>by have:=hrow _ he;omega
   have n2:(Value.slice A k c).ownBlock≠some (wr.heap.size+1 - 1):=fun he=>by have:=hrow _ he;omega
   exact⟨⟨hkeep _ _ hz.1 (by omega) n1,hkeep _ _ hz.2 (by omega) n2⟩,by omega,by omega,fun he=>hgq _ hzs n1 (by injection he),fun he=>hgq _ (by omega) n2 (by injection he)⟩
 ·refine((((Kp.Qi hb (fun q=>q=b\/some q=(Value.slice A k c).ownBlock)).trans (Kp.Zl hg) (fun q hq=> .inl (.inr hq)))).trans (Kp.setCell w2 ⟨b,0,none⟩ _) (fun q hq=> .inl (.inl hq))).below (Nat.le_of_lt hlb) (fun q hq=> ?_)
  rcases hq with hq|hq
  ·rw[hq];exact Nat.le_refl _
  ·exact h.low q hq.symm
def Y1d(q:Nat):J4:=⟨q,0,1,1,q - 1,256,List.replicate 256 0⟩
theorem Q1r.V8{b k c:Nat}{w:World}{A:Option Addr}{l:List Nat}(h:Q1r b k w A c l)(hk:1<=k):∃D:Qw,Zb D w/\D.db=b/\D.s=l.map Y1d/\D.vm=1/\∀q,(Qo D).U q->b<=q:=by
 obtain⟨g,cap,he,_,hgl,hcap,hmx⟩:=h.own.form (by rw[h.len];omega)
 rw[h.len]at he hcap
 injection he with hA _ hC
 subst hA
 subst hC
 obtain⟨cur,hh,_,_,_,_,hs,ht⟩:=h.own.block
 have hne:b≠g:=fun hx=>h.ne (by rw[hx];rfl)
 refine⟨⟨b,g,c,l.map Y1d,1⟩,⟨?_,?_,hmx,⟨cur,hh,fun i hi=> ?_⟩,fun s hs=> ?_,fun s hs=> ?_,hne,fun s hs=> ?_⟩,rfl,rfl,rfl,fun q hq=> ?_⟩
 ·show w.heap[b]? =some (.cells #[.slice (some ⟨g,0,none⟩) (l.map Y1d).length c,.int .i64 (-1),.bool false] 144 (0,0))
  rw[List.length_map,h.len];exact h.blk
 ·show(l.map Y1d).length<=c
  rw[List.length_map,h.len];exact hcap
 ·have hi':i<l.length:=by have:=hi;rwa [List.length_map]at this
  have hc:=h.own.cell Y2j (List.getElem?_eq_getElem hi') 0 _ rfl
  have hc':w.cell? ⟨g,i*1+0,none⟩=some (.slice (some ⟨l[i],0,none⟩) 1 1):=hc
  simp only[World.cell?,hh]at hc'
  simp at hc'
  show cur[i]? =some (Dp ((l.map Y1d)[i]))
  rw[List.getElem_map]
  exact hc'
 ·obtain⟨q,hq,rfl⟩:=List.mem_map.1 hs
  obtain⟨⟨v1,v2⟩,v3,v4,v5,v6⟩:=h.Q5u q hq
  have hcell:w.cell? ⟨q,0,none⟩=some (.slice (some ⟨q - 1,0,none⟩) 256 256):=by simp[World.cell?,v1]
  refine⟨Nat.le_refl _,Nat.le_refl _,by show 1<=maxLen;unfold maxLen;omega,fun j hj=> ?_,hcell,?_⟩
  ·have:j=0:=by have:j<1:=hj;omega
   subst this
   exact⟨_,_,hcell⟩
  ·exact Own.Jc v2 (Nat.zero_le _) Ee (by exact List.length_replicate) (Nat.le_refl _) (by show 256<=maxLen;unfold maxLen;omega) (by show(List.replicate 256 (Value.int .u8 0)).toArray.size=256;rw[List.size_toArray,List.length_replicate]) (by kernel_rfl)
 ·obtain⟨q,hq,rfl⟩:=List.mem_map.1 hs
  exact Nat.le_refl _
 ·obtain⟨q,hq,rfl⟩:=List.mem_map.1 hs
  obtain⟨_,v3,v4,v5,v6⟩:=h.Q5u q hq
  exact⟨fun hx=>v5 (by rw[show q=g from hx];rfl),fun hx=>by have:q=b:=hx;omega,fun hx=>v6 (by rw[show q - 1=g from hx];rfl),fun hx=>by have:q - 1=b:=hx;omega⟩
 ·rcases hq with rfl|rfl|⟨s,hs,hq⟩
  ·exact Nat.le_refl _
  ·exact h.low _ rfl
  ·obtain⟨z,hz,rfl⟩:=List.mem_map.1 hs
   obtain⟨_,v3,_⟩:=h.Q5u z hz
   rcases hq with hq|hq
   ·have e:q=z:=hq
    omega
   ·have e:q=z - 1:=hq
    omega
theorem Y6h(w:World):X4i (((w.alloc (.cells Vf 5)).alloc (.cells #[.slice (some ⟨w.heap.size,0,none⟩) 256 256] 155)).alloc (.cells (Dn (w.heap.size+1)).toArray 156)) (w.heap.size+1):=by
 have h2:=Ym w (.cells Vf 5) (.cells #[.slice (some ⟨w.heap.size,0,none⟩) 256 256] 155)
 exact⟨by rw[Nat.add_sub_cancel];exact upa h2.2 _,by rw[Nat.add_sub_cancel];exact upa h2.1 _⟩
set_option maxRecDepth 4000 in
set_option maxHeartbeats 4000000 in
theorem X2d(w:World)(n:Nat)(h1:1<=n)(h2:n<=200):
  Calls Tryz.prog 24 #[.int .i64 n] w fun e w'=>e=.returned (.pointer (some ⟨w.heap.size,0,none⟩))/\(∃A c l,Q1r w.heap.size n w' A c l)/\Below w.heap.size w w':=by
 obtain⟨i0,hi,hz0,hz1,hz2⟩:=info_parts Y6n
 have hmk:∀W,(Instr.makeSlice 155 (.int .i64 256) (.int .i64 256)).run Tryz.prog W=.ok (.slice (some ⟨W.heap.size,0,none⟩) 256 256) (W.alloc (.cells Vf 5)):=fun _=>by kernel_rfl
 have b1:¬(n:Int)<1:=by omega
 have b2:¬(200:Int)<n:=by omega
 have b3:(1:Int)<=n:=by omega
 have b4:(n:Int)<=200:=by omega
 go_enter Tryz.func24,Tryz.ntmps24
 go_wp2_with fail
 go_loopg [4] n (fun kx s4 wr=>∃i:Nat,∃A c l,s4=.int .i64 i/\i<=n/\n - i<=kx/\Sc (Below w.heap.size w wr)/\Sc (Q1r w.heap.size i wr A c l))
 case atStart=>exact⟨0,none,0,[],rfl,by omega,by omega,⟨Q3 (Below.refl _ _) _⟩,⟨heap_alloc_new w _,fun h=>by injection h,fun q h=>by injection h,Own.nil,rfl,fun q hq=>by cases hq⟩⟩
 case round=>
  obtain⟨i,A,c,l,rfl,hin,hk,HB,HD⟩:=hrel
  by_cases hlt:i<n
  ·have hc:=HD.o.blk
   have d1:=Od hc
   have z0:=Q2 hc 0
   have lb:=Q6 hc
   have lb1:w.heap.size<wr.heap.size+1:=by omega
   have lb2:w.heap.size<wr.heap.size+1+1:=by omega
   have n0:¬w.heap.size=wr.heap.size:=by omega
   have n1:¬w.heap.size=wr.heap.size+1:=by omega
   have n2:¬w.heap.size=wr.heap.size+1+1:=by omega
   have HA2:Sc (i+1<=maxLen):=⟨by unfold maxLen;omega⟩
   have HA3:Sc ((i+1)*24<=140737488355328):=⟨by omega⟩
   have hd:decide ((i:Int)<n)=true:=decide_eq_true (by omega)
   have hd1:(i:Int)<n:=by omega
   have hd2:(i:Int)<200:=by omega
   have hiw:IntKind.i64.wrap ((i:Int)+1)=((i+1:Nat):Int):=by rw[IntWalk.i64_in _ ⟨by omega,by omega⟩];omega
   clear hc
   go_upto_region 5 with fail
   go_region_law (first|((refine step_append_lies _ (by rfl) (.tmp 18) (.tmp 21) 142 (by rfl) 0 156 i0 (.slice none 0 0) 1 24 Tryz.underlying142 hi hz0 hz1 hz2 rfl (by decide) _ i (flat Dn l) (by rfl) ((((HD.o.own.alloc _).alloc _).alloc _).drew.rows HD.o.len) ⟨wr.heap.size+2,0,none⟩ 1 1 (Dn (wr.heap.size+1)) (by rfl) (by rfl) (World.news_of_block (X7r wr)) (Y2j.one _) Nat.one_pos HA2.o HA3.o (Nat.zero_le _) (wr.heap.size+3) (by simp) ?_);intro ga ca wa g1 g2 g3 g4;obtain⟨hce,hdp,hbe⟩:=Q1r.app HD.o (Q3 (Q3 (Q3 (Below.refl wr.heap.size wr) _) _) _) (Y6h wr) (by simp) g1 (Uz g2) (g3.elim .inl (fun h=> .inr (by rw[h];simp)));have y0:=Q2 hce 0;have y1:=Od hce;have lw:=Q6 hce;have HDP:=Q0 hdp;have HBE:=Q0 hbe;clear g1 g2 g3 g4 hce hdp hbe))
   all_goals
    go_wp2
    go_roundg (n - (i+1))
    case measure=>omega
    case rel=>exact⟨i+1,_,_,_,by rw[show((i+1:Nat):Int)=(i:Int)+1 from by omega],by omega,Nat.le_refl _,⟨HB.o.trans HBE.o⟩,HDP⟩
  ·obtain rfl:n=i:=by omega
   have hd:decide ((n:Int)<n)=false:=decide_eq_false (by omega)
   go_wp2_with fail
   go_ret
   exact⟨rfl,⟨A,c,l,HD.o⟩,HB.o⟩
theorem X5q:Yk 0 []=List.replicate 256 0:=by decide+kernel
theorem Y7p:G6 []:=fun _ h=>by cases h
theorem Y7s:OkP 0 []:=⟨by omega,by omega,by show(0:Nat)<=20;omega,fun h=>absurd h (Nat.lt_irrefl 0),Vt.zero []⟩
def X7t(D:Qw)(pb db lb f p q:Nat):X9:=⟨⟨pb,db,lb,f,none,[],none,[]⟩,D,⟨db,(p:Int)+1,q,0⟩,none,[],p,q,fun _=>(0,[])⟩
theorem X2k{D:Qw}{pb db lb f p q:Nat}(hp:1<=p/\p<=32)(hq:q<=64)(hf:1<=f/\f<=8)(hD:D.s.length=1+p+q)(hc:∀n,1<=n->n<=p->D.c[n]? =some (List.replicate 256 0)):Yr (X7t D pb db lb f p q) where
 pg:=hp
 blk:=hq
 size:=hD
 fi:=by show(p:Int)+1=((p+1:Nat):Int);omega
 gbl:=rfl
 len:=Nat.zero_le _
 dn:=⟨Int.le_refl _,by show(0:Int)<=((0:Nat):Int);omega⟩
 Jo:=fun r hr=>by cases hr
 most:=hf
 few:=Nat.zero_le _
 here:=fun g hg=>by cases hg
 one:=List.nodup_nil
 ok:=fun _=>⟨Y7s,Y7p⟩
 clean:=fun n h1 h2 _=>(hc n h1 h2).trans (congrArg some X5q.symm)
 Zt:=fun y hy=>by cases hy
theorem X9t{w:World}{pb db lb f:Nat}(h:w.heap[pb]? =some (.cells #[.pointer (some ⟨db,0,none⟩),.pointer (some ⟨lb,0,none⟩),.int .i64 f,.slice none 0 0,.slice none 0 0] 186 (0,0))):Q8w ⟨pb,db,lb,f,none,[],none,[]⟩ w where
 val:=⟨.slice none 0 0,rfl,Own.nil,⟨⟨.slice none 0 0,rfl,⟨rfl,h⟩,Own.nil⟩,(by intro he;cases he),List.Pairwise.nil⟩⟩
 Q1e:=fun g hg=>by cases hg
 ff:=by intro he;cases he
 ft:=by intro q he;cases he
 far:=fun g hg=>by cases hg
def Ch(D:Qw)(p q f ss nb pb db lb spb:Nat):WG:=⟨X7t D pb db lb f p q,Q1h p q f ss nb db lb pb spb,6*q,0⟩
theorem Y0m{D:Qw}{p q f ss nb pb db lb spb:Nat}:Ok p (6*q) (Ch D p q f ss nb pb db lb spb).abs:=by
 have hrec:∀l r,Qx [] 0 l=some r->False:=fun l r h=>by have:=Yo h;simp at this;omega
 refine⟨⟨fun l r h=>(hrec l r h).elim,fun x hx=>(by cases hx),List.Pairwise.nil,fun x hx=>(by cases hx),⟨Int.le_refl _,by show(0:Int)<=60000;omega⟩,fun n=>⟨Y7s,Y7p,by show(0:Int)<=((0:Nat):Int);omega⟩,fun y hy=>(by cases hy),fun i r h=>(by simp[Ch,WG.abs,X7t]at h),⟨[],0,Gl.nil,.inl rfl⟩⟩,.inr ⟨⟨Gl.nil,.inl rfl,fun x hx=>(by cases hx),fun n id h=> .inl ?_,fun x hx=>(by cases hx),fun i j id h1 _=> .inl ?_,fun n id _ _ l r h=>(hrec l r h).elim,fun l r h=>(hrec l r h).elim,fun n=>⟨[],List.nodup_nil,Nat.zero_le _,fun y hy=>(by cases hy),fun k ⟨l,r,h,_⟩=>(hrec l r h).elim⟩⟩,fun x hx=>(by cases hx)⟩⟩
 ·exact List.eq_of_mem_replicate (List.mem_of_getElem? (show(List.replicate 8 (0:Int))[n]? =some id from h))
 ·exact List.eq_of_mem_replicate (List.mem_of_getElem? (show(List.replicate 8 (0:Int))[i]? =some id from h1))
theorem X6q{D:Qw}{p q f ss nb pb db lb spb:Nat}(hs:ss<=8)(hq:q<=31)(hv:D.vm=1):Cnt (Ch D p q f ss nb pb db lb spb) 0 1:=
 ⟨hs,Nat.le_refl _,Nat.le_refl _,Nat.le_refl _,Int.le_refl _,Nat.le_of_eq hv,by show(6*(q:Int))+0<=400;omega,by omega,fun x hx=>by rw[List.eq_of_mem_replicate hx];exact Nat.zero_le _,fun h hh=>by cases hh⟩
theorem X0m{w:World}{D:Qw}{p q f ss nb pb db lb spb:Nat}(hp:1<=p/\p<=32)(hq:q<=64)(hf:1<=f/\f<=8)(hD:D.s.length=1+p+q)(hc:∀n,1<=n->n<=p->D.c[n]? =some (List.replicate 256 0))
  (hz:Zb D w) (hdb:D.db=db) (hl:Jb ⟨db,(p:Int)+1,q,0⟩ w lb none [] 0) (hP:w.heap[pb]? =some (.cells #[.pointer (some ⟨db,0,none⟩),.pointer (some ⟨lb,0,none⟩),.int .i64 f,.slice none 0 0,.slice none 0 0] 186 (0,0)))
  (hs:Yw w spb (6*q) 0) (ht:Vr (Q1h p q f ss nb db lb pb spb) w) (hu:∀z,(Qo D).U z->z<lb) (h1:lb<pb) (h2:pb<spb) (h3:pb<nb) (h4:nb≠spb):Qh (Ch D p q f ss nb pb db lb spb) w:=by
 have hlp:∀z,(Xv ⟨db,(p:Int)+1,q,0⟩ lb none [] 0).U z->z=lb:=fun z hz=>hz.elim id (fun h=>by cases h)
 have hown:∀z,X2j ⟨pb,db,lb,f,none,[],none,[]⟩ z->z=pb:=fun z hz=>by
  rcases hz with h|h|h|⟨g,hg,_⟩
  ·exact h
  ·cases h
  ·cases h
  ·cases hg
 have hsto:∀z,Y5x (Q1h p q f ss nb db lb pb spb) z->z=nb:=fun z hz=>by
  rcases hz with h|h|h|h|⟨x,hx,h⟩
  ·exact h
  ·cases h
  ·cases h
  ·cases h
  ·rw[List.eq_of_mem_replicate hx]at h;cases h
 have hpool:∀z,(Qa (X7t D pb db lb f p q)).U z->z<=pb:=fun z hz=>by
  rcases hz with (h|h)|h
  ·have:=hu z h;omega
  ·have:=hlp z h;omega
  ·have:=hown z h;omega
 exact⟨⟨⟨hz,hl,hdb.symm,fun z h1 h2=>by have:=hu z h1;have:=hlp z h2;omega⟩,X9t hP,fun z hd ho=>by
   have:=hown z ho
   rcases hd with h|h
   ·have:=hu z h;omega
   ·have:=hlp z h;omega,hdb.symm,X2k hp hq hf hD hc⟩,ht,hs,fun z h1 h2=>by have:=hpool z h1;have:=hsto z h2;omega,fun z h1 h2=>by have:=hpool z h1;have h3:z=spb:=h2;omega,fun z h1 h2=>by have:=hsto z h1;have h3:z=spb:=h2;omega,rfl,rfl,rfl,rfl,rfl⟩
theorem X3o{D:Qw}{p q f ss nb pb db lb spb z:Nat}(h:(Q1 (Ch D p q f ss nb pb db lb spb)).U z):(Qo D).U z\/z=lb\/z=pb\/z=nb\/z=spb:=by
 rcases h with ((h|h)|h)|h|h
 ·exact .inl h
 ·rcases h with h|h
  ·exact .inr (.inl h)
  ·cases h
 ·rcases h with h|h|h|⟨g,hg,_⟩
  ·exact .inr (.inr (.inl h))
  ·cases h
  ·cases h
  ·cases hg
 ·rcases h with h|h|h|h|⟨x,hx,h⟩
  ·exact .inr (.inr (.inr (.inl h)))
  ·cases h
  ·cases h
  ·cases h
  ·rw[List.eq_of_mem_replicate hx]at h;cases h
 ·exact .inr (.inr (.inr (.inr h)))
structure Y7u(S:WG)(p f ss:Nat):Prop where
 cnt:Cnt S 0 1
 ok:Ok S.P.pages (6*S.P.bl) S.abs
 pages:S.T.pages=p
 Xf:S.T.Xf=f
 Qu:S.T.Qu=ss
set_option maxRecDepth 8000 in
set_option maxHeartbeats 8000000 in
theorem X4n(w:World)(p q f ss:Nat)(hp:1<=p/\p<=4)(hq:2<=q/\q<=31)(hf:1<=f/\f<=4)(hs:1<=ss/\ss<=4):
  Calls Tryz.prog 19 #[.agg #[.int .i64 p,.int .i64 q,.int .i64 f,.int .i64 ss]] w fun e w'=>∃eb S,e=.returned (.tuple #[.pointer (some ⟨eb,0,none⟩),.bool true])/\On S eb ss w'/\Y7u S p f ss/\(∀z,(Q1 S).U z->w.heap.size<=z)/\w.heap.size<=eb/\Below w.heap.size w w':=by
 obtain⟨w1,hw1⟩:∃w1,w.alloc (.cells #[.int .i64 p,.int .i64 q,.int .i64 f,.int .i64 ss] 63)=w1:=⟨_,rfl⟩
 have HB1:Sc (Below w.heap.size w w1):=⟨hw1▸Q3 (Below.refl _ _) _⟩
 have HN1:Sc (w1.heap[w.heap.size]? =some (.cells #[.int .i64 p,.int .i64 q,.int .i64 f,.int .i64 ss] 63 (0,0))):=⟨by rw[<-hw1];exact heap_alloc_new _ _⟩
 have HBS:Sc (w1.heap.size=w.heap.size+1):=⟨by rw[<-hw1];simp⟩
 obtain⟨b1,hb1⟩:∃b1,w.heap.size=b1:=⟨_,rfl⟩
 rw[hb1]at HN1
 have HB1E:=Q0 hb1
 have HH:=Q0 (And.intro hp (And.intro hq (And.intro hf hs)))
 obtain⟨db,hdb⟩:∃db,w1.heap.size=db:=⟨_,rfl⟩
 have HDB:=Q0 hdb
 have CND:=X2d w1 (1+p+q) (by omega) (by omega)
 rw[show((1+p+q:Nat):Int)=1+(p:Int)+(q:Int) from by omega,hdb]at CND
 have CND:=Q0 CND
 have hwi1:IntKind.i64.wrap (1+(p:Int))=1+(p:Int):=IntWalk.i64_in _ ⟨by omega,by omega⟩
 have hwi2:IntKind.i64.wrap (1+(p:Int)+(q:Int))=1+(p:Int)+(q:Int):=IntWalk.i64_in _ ⟨by omega,by omega⟩
 have a1:¬(p:Int)<1:=by omega
 have a2:¬(32:Int)<p:=by omega
 have a3:¬(q:Int)<1:=by omega
 have a4:¬(64:Int)<q:=by omega
 have a5:¬(f:Int)<1:=by omega
 have a6:¬(8:Int)<f:=by omega
 have a7:¬(ss:Int)<1:=by omega
 have a8:¬(8:Int)<ss:=by omega
 have e1:decide ((p:Int)<1)=false:=decide_eq_false a1
 have e2:decide ((32:Int)<p)=false:=decide_eq_false a2
 have e3:decide ((q:Int)<1)=false:=decide_eq_false a3
 have e4:decide ((64:Int)<q)=false:=decide_eq_false a4
 have e5:decide ((f:Int)<1)=false:=decide_eq_false a5
 have e6:decide ((8:Int)<f)=false:=decide_eq_false a6
 have e7:decide ((ss:Int)<1)=false:=decide_eq_false a7
 have e8:decide ((8:Int)<ss)=false:=decide_eq_false a8
 obtain⟨c0,c1,c2,c3,_,_,_,_,lc⟩:=Qz HN1.o
 clear hp hq hf hs
 go_enter Tryz.func19,Tryz.ntmps19
 go_wp2_with fail
 try rw[hw1]
 try rw[hb1]
 clear hw1 hb1
 refine CND.o.mono ?_
 rintro e w2 ⟨rfl,⟨A,c,l,hD⟩,hb2⟩
 obtain⟨D,hz,hDdb,hDs,hDvm,hDU⟩:=hD.V8 (by have:=HH.o;omega)
 have hDl:D.s.length=1+p+q:=by rw[hDs,List.length_map,hD.len]
 have hDc:D.c=List.replicate (1+p+q) (List.replicate 256 0):=by
  unfold Qw.c
  rw[hDs,List.map_map]
  have:((fun x:J4=>x.f)∘Y1d)=fun _=>List.replicate 256 (0:Int):=rfl
  rw[this,List.map_const',hD.len]
 have HD:=Q0 (And.intro hz (And.intro hDdb (And.intro hDl (And.intro hDvm (And.intro hDU hDc)))))
 have HB2:Sc (Below db w1 w2):=⟨hb2⟩
 have HN2:=Q0 ((hb2.block _ (by have:=Q6 HN1.o;omega)).trans HN1.o)
 clear hz hDdb hDl hDvm hDU hDs hDc hD hb2 c0 c1 c2 c3 lc e1 e2 e3 e4 e5 e6 e7 e8 a1 a2 a3 a4 a5 a6 a7 a8 hwi1 hwi2
 obtain⟨c0,c1,c2,c3,_,_,_,_,lc⟩:=Qz HN2.o
 go_upto_region 5 with fail
 obtain⟨w3,hw3⟩:∃w3,w2.alloc (.cells #[.int .i64 1,.int .i64 0,.int .i64 1,.int .i64 0,.int .i64 p,.int .i64 q,.int .i64 f] 91)=w3:=⟨_,rfl⟩
 obtain⟨b5,hb5⟩:∃b5,w2.heap.size=b5:=⟨_,rfl⟩
 have HB3:Sc (Below w2.heap.size w2 w3):=⟨by rw[<-hw3];exact Q3 (Below.refl _ _) _⟩
 have HN5:Sc (w3.heap[b5]? =some (.cells #[.int .i64 1,.int .i64 0,.int .i64 1,.int .i64 0,.int .i64 p,.int .i64 q,.int .i64 f] 91 (0,0))):=⟨by rw[<-hw3,<-hb5];exact heap_alloc_new _ _⟩
 have HZ3:Sc (Zb D w3):=⟨(Qo D).bel HD.o.1 HB3.o⟩
 have HU5:Sc (¬(Qo D).U b5/\¬(Qo D).U b1):=⟨fun hu=>by have:=(Qo D).lt HD.o.1 _ hu;omega,fun hu=>by have:=HD.o.2.2.2.2.1 _ hu;have:=HBS.o;have:=HB1E.o;have:=HDB.o;omega⟩
 have CM:=Ef D w3 0 p q f HZ3.o ⟨by omega,by omega,by have:=HH.o;omega,by have:=HH.o;omega,by have:=HH.o;omega,by have:=HH.o;omega,by have:=HH.o;omega,by have:=HH.o;omega⟩ (by have:=HD.o.2.2.1;omega) (by have:=HD.o.2.2.1;have:=HH.o;omega) (by have:=HD.o.2.2.2.1;omega)
 rw[HD.o.2.1]at CM
 have CM:=Q0 CM
 have HN3:=Q0 (up HB3.o HN2.o)
 rw[hw3]
 try rw[hb5]
 clear hw3 hb5 c0 c1 c2 c3 lc
 obtain⟨m0,m1,m2,m3,m4,m5,m6,_,_,_,_,_,_,_,lm⟩:=Xx HN5.o
 go_wp2_with fail
 refine CM.o.mono ?_
 rintro e w4 ⟨rfl,D',g,hl,hd2,hc2,hv2⟩
 have HL4:=Q0 hl
 have HD4:Sc (D'.db=db/\D'.s.length=1+p+q/\D'.vm=1/\∀n,1<=n->n<=p->D'.c[n]? =some (List.replicate 256 0)):=⟨hd2,by rw[<-Qw.Yh,hc2,List.length_set,Qw.Yh];exact HD.o.2.2.1,hv2,fun n h1 h2=>by
  rw[hc2,List.getElem?_set_ne (by omega),HD.o.2.2.2.2.2,List.getElem?_replicate,if_pos (by omega)]⟩
 have HN54:=Q0 (hl.2.1.at HN5.o HU5.o.1)
 have HN14:=Q0 (hl.2.1.at HN3.o HU5.o.2)
 have HU4:Sc (∀z,(Qo D').U z->z<w4.heap.size/\db<=z):=⟨fun z hz=>⟨(Qo D').lt hl.1 z hz,(hl.2.2 z hz).elim (fun h=>HD.o.2.2.2.2.1 z h) (fun h=>by have h1:=HB2.o.size;have h2:=HB3.o.size;have:=HDB.o;omega)⟩⟩
 have HB14:Sc (Below w.heap.size w w4):=⟨by
  have h1:Below w.heap.size w1 w3:=(HB2.o.mono (by have:=HBS.o;have:=HDB.o;omega)).trans (HB3.o.mono (by have h1:=HB2.o.size;have:=HBS.o;omega))
  exact(HB1.o.trans h1).trans (hl.2.1.below (Nat.le_trans HB1.o.size h1.size) (fun z hz=>by have:=HD.o.2.2.2.2.1 z hz;have:=HBS.o;have:=HDB.o;omega))⟩
 clear hl hd2 hc2 hv2 m0 m1 m2 m3 m4 m5 m6 lm
 obtain⟨c0,c1,c2,c3,_,_,_,_,lc⟩:=Qz HN14.o
 have CF:Sc (∀X:World,Calls Tryz.prog 50 #[.int .i64 p] X fun e w'=>e=.returned (.int .i64 ((p:Int)+1))/\X=w'):=⟨fun X=>X1r X p (by omega) (by have:=HH.o;omega)⟩
 have CL:Sc (∀X,Below w4.heap.size w4 X->Calls Tryz.prog 23 #[.pointer (some ⟨db,0,none⟩),.int .i64 ((p:Int)+1),.int .i64 q,.int .i64 0,.int .i64 1] X fun e w'=>∃lb,e=.returned (.pointer (some ⟨lb,0,none⟩))/\Jb ⟨db,(p:Int)+1,q,0⟩ w' lb none [] 0/\w4.heap.size<=lb/\Below w4.heap.size w4 w'):=⟨fun X hX=>by
  refine(X4e X db ((p:Int)+1) q 0).mono ?_
  rintro e w' ⟨he,hlz,hb⟩
  exact⟨_,he,hlz,hX.size,Q5 hX hb⟩⟩
 have HQ:Sc (Below w4.heap.size w4 w4):=⟨Below.refl _ _⟩
 go_upto_region 6 with fail
 go_cut [6] from 62 to 68 (fun s6 wx=>∃lb,s6=.pointer (some ⟨lb,0,none⟩)/\Sc (Jb ⟨db,(p:Int)+1,q,0⟩ wx lb none [] 0)/\Sc (w4.heap.size<=lb)/\Sc (Below w4.heap.size w4 wx))
 case first=>
  go_region_law
   (first
    |(go_simp;go_at_call 50;go_loud (refine(CF.o _).mono ?_;rintro e wp ⟨rfl,rfl⟩))
    |(go_simp;go_at_call 23;go_loud (refine(CL.o _ (by first|with_reducible exact HQ.o|with_reducible exact Below.drew HQ.o)).mono ?_;rintro e wt ⟨lb,rfl,hlz,hle,hb⟩;have HLZ:=Q0 hlz;have HLE:=Q0 hle;have HBT:=Q0 hb;clear hlz hle hb)))
  all_goals
   go_wp2_with fail
   go_meet
   case rel=>exact⟨lb,rfl,HLZ,HLE,HBT⟩
 case rest=>
  obtain⟨lb,rfl,HLZ,HLE,HB5⟩:=hcut
  obtain⟨w5,rfl⟩:∃w5,w5=wc:=⟨_,rfl⟩
  clear c0 c1 c2 c3 lc
  have SK:Sc (∀W,Below w5.heap.size w5 W->W.cell? ⟨b1,0,none⟩=some (.int .i64 p)/\W.cell? ⟨b1,1,none⟩=some (.int .i64 q)/\W.cell? ⟨b1,2,none⟩=some (.int .i64 f)/\W.cell? ⟨b1,3,none⟩=some (.int .i64 ss)/\W.cell? ⟨b5,0,none⟩=some (.int .i64 1)/\W.cell? ⟨b5,1,none⟩=some (.int .i64 0)/\W.cell? ⟨b5,2,none⟩=some (.int .i64 1)/\W.cell? ⟨b5,3,none⟩=some (.int .i64 0)/\W.cell? ⟨b5,4,none⟩=some (.int .i64 p)/\W.cell? ⟨b5,5,none⟩=some (.int .i64 q)/\W.cell? ⟨b5,6,none⟩=some (.int .i64 f)):=⟨fun W hW=>by
   obtain⟨c0,c1,c2,c3,_⟩:=Qz (up hW (up HB5.o HN14.o))
   obtain⟨m0,m1,m2,m3,m4,m5,m6,_⟩:=Xx (up hW (up HB5.o HN54.o))
   exact⟨c0,c1,c2,c3,m0,m1,m2,m3,m4,m5,m6⟩⟩
  have CP:Sc (∀X,Below w5.heap.size w5 X->Calls Tryz.prog 52 #[.pointer (some ⟨db,0,none⟩),.pointer (some ⟨lb,0,none⟩),.int .i64 f] X fun e w'=>∃pb,e=.returned (.pointer (some ⟨pb,0,none⟩))/\w'.heap[pb]? =some (.cells #[.pointer (some ⟨db,0,none⟩),.pointer (some ⟨lb,0,none⟩),.int .i64 f,.slice none 0 0,.slice none 0 0] 186 (0,0))/\w5.heap.size<=pb/\Below w5.heap.size w5 w'):=⟨fun X hX=>by
   refine(X2e X db lb f (by have:=HH.o;omega) (by have:=HH.o;omega)).mono ?_
   rintro e w' ⟨he,hh,hb⟩
   exact⟨_,he,hh,hX.size,Q5 hX hb⟩⟩
  have CNW:Sc (∀X (pb:Nat),Below w5.heap.size w5 X->Calls Tryz.prog 51 #[.agg #[.int .i64 p,.int .i64 q,.int .i64 f,.int .i64 ss],.pointer (some ⟨db,0,none⟩),.pointer (some ⟨lb,0,none⟩),.pointer (some ⟨pb,0,none⟩),.int .i64 0,.agg #[.int .i64 1,.int .i64 0,.int .i64 1,.int .i64 0,.int .i64 p,.int .i64 q,.int .i64 f]] X fun e w'=>∃nb spb,e=.returned (.pointer (some ⟨nb,0,none⟩))/\(Yw w' spb (6*q) 0/\Vr (Q1h p q f ss nb db lb pb spb) w'/\X.heap.size<=spb/\X.heap.size<=nb/\nb≠spb)/\Below X.heap.size X w'/\Below w5.heap.size w5 w'):=⟨fun X pb hX=>by
   refine(Q9q X p q f ss db lb pb 0 (HLZ.o.bel hX) (by have:=HH.o;omega)).mono ?_
   rintro e w' ⟨nb,spb,he,h1,h2,h3,h4,h5,hb⟩
   exact⟨nb,spb,he,⟨h1,h2,h3,h4,h5⟩,hb,Q5 hX hb⟩⟩
  have HQ:Sc (Below w5.heap.size w5 w5):=⟨Below.refl _ _⟩
  go_upto_region 7 with fail
  go_region_held3 (fun W=>W.cell? ⟨b1,0,none⟩=some (.int .i64 p)/\W.cell? ⟨b1,1,none⟩=some (.int .i64 q)/\W.cell? ⟨b1,2,none⟩=some (.int .i64 f)/\W.cell? ⟨b1,3,none⟩=some (.int .i64 ss)/\W.cell? ⟨b5,0,none⟩=some (.int .i64 1)/\W.cell? ⟨b5,1,none⟩=some (.int .i64 0)/\W.cell? ⟨b5,2,none⟩=some (.int .i64 1)/\W.cell? ⟨b5,3,none⟩=some (.int .i64 0)/\W.cell? ⟨b5,4,none⟩=some (.int .i64 p)/\W.cell? ⟨b5,5,none⟩=some (.int .i64 q)/\W.cell? ⟨b5,6,none⟩=some (.int .i64 f))
   (first|exact SK.o _ HQ.o|exact SK.o _ (Below.drew HQ.o)|exact SK.o _ (Q3 HQ.o _)|exact SK.o _ (Below.drew (Q3 HQ.o _)))
   (first
    |(go_at_call 52;go_loud (refine(CP.o _ (by first|with_reducible exact HQ.o|with_reducible exact Below.drew HQ.o)).mono ?_;rintro e wt ⟨pb,rfl,hpk,hpl,hq⟩;have HQ:=Q0 hq;have HPK:=Q0 hpk;have HPL:=Q0 hpl;clear hq hpk hpl))
    |(go_at_call 51;go_loud (refine(CNW.o _ pb (by first|with_reducible exact HQ.o|with_reducible exact Below.drew HQ.o)).mono ?_;rintro e wu ⟨nb,spb,rfl,hst,hbx,hq⟩;have HQ:=Q0 hq;have HST:=Q0 hst;have HBX:=Q0 hbx;clear hq hst hbx)))
  all_goals
   go_wp2
   go_ret2
   have hpw:=Q6 HPK.o
   have hst:=HST.o
   have hllt:=HLZ.o.lt
   have hb5s:=HB5.o.size
   have hb0:=HB14.o.size
   have hle:=HLE.o
   have hpl:=HPL.o
   have hhh:=HH.o
   have hdl:=HDB.o
   have hbs:=HBS.o
   have hq5:Below w5.heap.size w5 (wu.alloc (.cells #[.pointer (some ⟨db,0,none⟩),.pointer (some ⟨nb,0,none⟩),.int .i64 ss] 96)):=Q3 HQ.o _
   have hqu:Below wu.heap.size wu (wu.alloc (.cells #[.pointer (some ⟨db,0,none⟩),.pointer (some ⟨nb,0,none⟩),.int .i64 ss] 96)):=Q3 (Below.refl _ _) _
   have hxs:wt.heap.size<=wu.heap.size:=by have:=HBX.o.size;simpa using this
   have hwz:Qh (Ch D' p q f ss nb pb db lb spb) (wu.alloc (.cells #[.pointer (some ⟨db,0,none⟩),.pointer (some ⟨nb,0,none⟩),.int .i64 ss] 96)):=
    X0m (by omega) (by omega) (by omega) HD4.o.2.1 HD4.o.2.2.2 ((Qo D').bel ((Qo D').bel HL4.o.1 HB5.o) hq5) HD4.o.1 (HLZ.o.bel hq5) (up hqu ((HBX.o.block _ (by simpa using hpw)).trans (by simpa using HPK.o))) (hst.1.kp (Kp.Qi hqu (fun _=>False)) id) ((Y6 _).bel hst.2.1 hqu) (fun z hz=>by have:=(HU4.o z hz).1;omega) (by omega) (by have h7:wt.heap.size<=spb:=hst.2.2.1;omega) (by have h7:wt.heap.size<=nb:=hst.2.2.2.1;omega) hst.2.2.2.2
   refine⟨wu.heap.size,Ch D' p q f ss nb pb db lb spb,rfl,⟨hwz,heap_alloc_new _ _,fun hu=> ?_⟩,⟨X6q (by omega) (by omega) HD4.o.2.2.1,Y0m,rfl,rfl,rfl⟩,fun z hz=> ?_,by have:=HQ.o.size;omega,(HB14.o.trans (HB5.o.mono hb0)).trans (hq5.mono (Nat.le_trans hb0 hb5s))⟩
   ·have h7:=Q6 hst.1.at_
    have h8:=(Y6 _).lt hst.2.1 nb (.inl rfl)
    rcases X3o hu with hh|hh|hh|hh|hh
    ·have:=(HU4.o _ hh).1;omega
    ·omega
    ·omega
    ·omega
    ·omega
   ·have h7:wt.heap.size<=spb:=hst.2.2.1
    have h8:wt.heap.size<=nb:=hst.2.2.2.1
    rcases X3o hz with hh|hh|hh|hh|hh
    ·have:=(HU4.o _ hh).2;omega
    ·omega
    ·omega
    ·omega
    ·omega
end Go.Proofs.YtoapihepdallbaaGreatDoor
