import Derived.Test.YtoapihepdallbaaGreatDoorP27
namespace Go.Proofs.YtoapihepdallbaaGreatDoor
open Go.RowKit
structure FrV where
 n:Int
 lsn:Int
 A:Option Addr
 s:Nat
 c:Nat
 l:List (Int×Int)
abbrev FrV.v(f:FrV):Value:=.slice f.A f.s f.c
def Zv(f:FrV):List Value:=[.int .i64 f.n,.int .i64 f.lsn,.slice f.A f.s f.c]
theorem G7:Kind Zv 3:=⟨fun _=>rfl,fun _ u hu=>by simp[Zv]at hu;rcases hu with rfl|rfl|rfl<;>rfl,by omega⟩
theorem Y6m:(Tryz.prog.info? 212).map (fun i=>(i.zero,i.size,i.bytes))=some (some (.agg #[.int .i64 0,.int .i64 0,.slice none 0 0]),3,40):=by kernel_rfl
theorem Own.C6{w:World}{e:TypeId}{base g n cap:Nat}{l:List FrV}(h:Own Zv 3 e base w (.slice (some ⟨g,0,none⟩) n cap) l){k:Nat}{x:FrV}(hx:l[k]? =some x):
  w.cell? ⟨g,k*3,none⟩=some (.int .i64 x.n)/\w.cell? ⟨g,k*3+1,none⟩=some (.int .i64 x.lsn)/\w.cell? ⟨g,k*3+2,none⟩=some x.v:=
 ⟨h.cell G7 hx 0 _ rfl,h.cell G7 hx 1 _ rfl,h.cell G7 hx 2 _ rfl⟩
structure Dm where
 pb:Nat
 db:Nat
 lb:Nat
 most:Nat
 U3:Option Nat
 fr:List FrV
 trow:Option Nat
 tab:List (Int×Int)
def Dm.pre(O:Dm)(vf:Value):Fld:=⟨#[.pointer (some ⟨O.db,0,none⟩),.pointer (some ⟨O.lb,0,none⟩),.int .i64 O.most,vf],#[],186⟩
structure Q8w(O:Dm)(w:World):Prop where
 val:∃vf,vf.ownBlock=O.U3/\Own Zv 3 212 0 w vf O.fr/\Gm (O.pre vf) 4 w O.pb O.trow O.tab
 Q1e:∀f∈O.fr,Own Qj 2 227 0 w f.v f.l
 ff:O.U3≠some O.pb
 ft:∀q,O.trow=some q->O.U3≠some q
 far:∀f∈O.fr,∀q,f.v.ownBlock=some q->q≠O.pb/\O.U3≠some q/\O.trow≠some q
def X2j(O:Dm)(q:Nat):Prop:=q=O.pb\/O.U3=some q\/O.trow=some q\/∃f∈O.fr,f.v.ownBlock=some q
theorem Gm.lt{F:Fld}{o:Nat}{w:World}{tb:Nat}{row:Option Nat}{l:List (Int×Int)}(h:Gm F o w tb row l):tb<w.heap.size/\∀q,row=some q->q<w.heap.size:=by
 obtain⟨⟨v,hv,hc,ho⟩,_,_⟩:=h
 exact⟨hc.lt,fun q hq=>(ho.lt q (by rw[hv];exact hq)).2⟩
def Xs(O:Dm):Part where
 P:=Q8w O
 U:=X2j O
 kp:=fun {S w w'} h hk hn=>by
  obtain⟨vf,hvf,hof,ht⟩:=h.val
  exact⟨⟨vf,hvf,hof.kp hk (fun q hq=>hn q (.inr (.inl (by rw[<-hvf];exact hq)))),ht.kp hk (hn _ (.inl rfl)) (fun q hq=>hn q (.inr (.inr (.inl hq))))⟩,fun f hf=>(h.Q1e f hf).kp hk (fun q hq=>hn q (.inr (.inr (.inr ⟨f,hf,hq⟩)))),h.ff,h.ft,h.far⟩
 lt:=fun {w} h q hq=>by
  obtain⟨vf,hvf,hof,ht⟩:=h.val
  rcases hq with rfl|hq|hq|⟨f,hf,hq⟩
  ·exact ht.lt.1
  ·exact(hof.lt q (by rw[hvf];exact hq)).2
  ·exact ht.lt.2 q hq
  ·exact((h.Q1e f hf).lt q hq).2
structure X9 where
 O:Dm
 D:Qw
 G:Ug
 Js:Option Nat
 L:List Q9
 pages:Nat
 bl:Nat
 pv:Int->Int×List (Int×Int)
structure Yr(P:X9):Prop where
 pg:1<=P.pages/\P.pages<=32
 blk:P.bl<=64
 size:P.D.s.length=1+P.pages+P.bl
 fi:P.G.fi=((P.pages+1:Nat):Int)
 gbl:P.G.bl=(P.bl:Int)
 len:P.L.length<=6*P.bl
 dn:0<=P.G.dn/\P.G.dn<=P.L.length
 Jo:∀r∈P.L,Qq r=true
 most:1<=P.O.most/\P.O.most<=8
 few:P.O.fr.length<=P.O.most
 here:∀f∈P.O.fr,1<=f.n/\f.n<=P.pages/\P.pv f.n=(f.lsn,f.l)
 one:(P.O.fr.map (·.n)).Nodup
 ok:∀n,OkP (P.pv n).1 (P.pv n).2/\G6 (P.pv n).2
 clean:∀n:Nat,1<=n->n<=P.pages->has P.O.tab n=false->P.D.c[n]? =some (Yk (P.pv n).1 (P.pv n).2)
 Zt:∀y∈P.O.tab,∃f∈P.O.fr,f.n=y.1
abbrev X9.lp(P:X9):Part:=Xv P.G P.O.lb P.Js P.L 0
abbrev X9.dl(P:X9):Part:=Part.both (Qo P.D) P.lp
structure Ya(P:X9)(w:World):Prop where
 dl:Y3z P.D P.G P.O.lb P.Js P.L w
 own:Q8w P.O w
 apart:P.dl.apart (Xs P.O)
 db:P.O.db=P.D.db
 plain:Yr P
def Qa(P:X9):Part where
 P:=Ya P
 U:=fun q=>P.dl.U q\/X2j P.O q
 kp:=fun h hk hn=>⟨⟨(Qo P.D).kp h.dl.V8 hk (fun q hq=>hn q (.inl (.inl hq))),P.lp.kp h.dl.log hk (fun q hq=>hn q (.inl (.inr hq))),h.dl.db,h.dl.apart⟩,(Xs P.O).kp h.own hk (fun q hq=>hn q (.inr hq)),h.apart,h.db,h.plain⟩
 lt:=fun h q hq=>hq.elim (fun hq=>hq.elim ((Qo P.D).lt h.dl.V8 q) (P.lp.lt h.dl.log q)) ((Xs P.O).lt h.own q)
theorem Ya.cells{P:X9}{w:World}(h:Ya P w):∃A c v,(Value.slice A P.O.fr.length c).ownBlock=P.O.U3/\Own Zv 3 212 0 w (.slice A P.O.fr.length c) P.O.fr/\
  w.cell? ⟨P.O.pb,0,none⟩=some (.pointer (some ⟨P.D.db,0,none⟩))/\w.cell? ⟨P.O.pb,1,none⟩=some (.pointer (some ⟨P.O.lb,0,none⟩))/\w.cell? ⟨P.O.pb,2,none⟩=some (.int .i64 P.O.most)/\w.cell? ⟨P.O.pb,3,none⟩=some (.slice A P.O.fr.length c)/\w.cell? ⟨P.O.pb,4,none⟩=some v/\P.O.pb<w.heap.size/\w.frozen? ⟨P.O.pb,3,none⟩=false:=by
 obtain⟨vf,hvf,hof,ht⟩:=h.own.val
 obtain⟨A,c,rfl,_,_⟩:=hof.slice
 obtain⟨⟨v,hv,hc,_⟩,_,_⟩:=ht
 have hc2:=hc.at
 have hb:=h.db
 refine⟨A,c,v,hvf,hof,?_,?_,?_,?_,?_,hc.lt,hc.Qr 3⟩
 all_goals simp[World.cell?,hc2,Dm.pre,hb]
def Co(fr:List FrV)(n r:Int):Prop:=(r= -1/\∀f∈fr,f.n≠n)\/∃(k:Nat) (f:FrV),r=k/\fr[k]? =some f/\f.n=n
set_option maxRecDepth 4000 in
set_option maxHeartbeats 1000000 in
theorem Un(w:World)(P:X9)(n:Int)(h:Ya P w):
  Calls Tryz.prog 110 #[.pointer (some ⟨P.O.pb,0,none⟩),.int .i64 n] w fun e w'=>∃r:Int,e=.returned (.int .i64 r)/\Co P.O.fr n r/\w=w':=by
 obtain⟨A,c,v,_,hof,_,_,_,c3,_,lt,_⟩:=h.cells
 have hfew:P.O.fr.length<=8:=Nat.le_trans h.plain.few h.plain.most.2
 obtain⟨m,hm⟩:∃m,P.O.fr.length=m:=⟨_,rfl⟩
 rw[hm]at hof c3 hfew
 have HM:=Q0 hm
 have HO:=Q0 hof
 clear h hm hof
 go_enter Tryz.func110,Tryz.ntmps110
 go_wp2_with fail
 go_loop [5] (fun s5=>∃i:Nat,s5=.int .i64 i/\i<=m/\Sc (∀(j:Nat) f,j<i->P.O.fr[j]? =some f->f.n≠n)) (fun s5=>m - (intOf s5).toNat)
 case atStart=>exact⟨0,rfl,by omega,⟨fun j x hj=>absurd hj (Nat.not_lt_zero _)⟩⟩
 case round=>
  obtain⟨i,rfl,hi,HI⟩:=hrel
  by_cases hlt:i<m
  ·obtain⟨x,hx⟩:∃x,P.O.fr[i]? =some x:=⟨_,List.getElem?_eq_getElem (by rw[HM.o];exact hlt)⟩
   obtain⟨g,cq,he,_,_,_,_⟩:=HO.o.form (by rw[HM.o];omega)
   injection he with hA hn2 hC
   subst hA
   obtain⟨d0,_⟩:=HO.o.C6 hx
   have HX:=Q0 hx
   have hil:(i:Int)<m:=by omega
   clear hx hC hn2
   by_cases hp:x.n=n
   ·have hb:(x.n==n)=true:=by simp[hp]
    have HL:Sc (x.n=n):=⟨hp⟩
    clear hp
    go_wp2
    go_ret
    exact⟨(i:Int),rfl,.inr ⟨i,x,rfl,HX.o,HL.o⟩,rfl⟩
   ·have hb:(x.n==n)=false:=by simp[hp]
    have HJ:Sc (∀(j:Nat) y,j<i+1->P.O.fr[j]? =some y->y.n≠n):=⟨fun j y hj hy=>by
     rcases Nat.lt_succ_iff_lt_or_eq.1 hj with h|h
     ·exact HI.o j y h hy
     ·subst h;have h1:=HX.o;rw[hy]at h1;injection h1 with h1;subst h1;exact hp⟩
    clear hp
    go_wp2
    go_round
    case rel=>exact⟨i+1,by go_num,by omega,HJ⟩
    case measure=>simp[intOf];omega
  ·obtain rfl:i=m:=by omega
   have HL:Sc (∀f∈P.O.fr,f.n≠n):=⟨fun f hf=>by
    obtain⟨j,hj⟩:=List.mem_iff_getElem?.1 hf
    exact HI.o j f (by rw[<-HM.o];exact(List.getElem?_eq_some_iff.1 hj).1) hj⟩
   go_wp2
   go_ret
   exact⟨-1,rfl,.inl ⟨rfl,HL.o⟩,rfl⟩
theorem Ya.Q1d{P:X9}{D':Qw}{G':Ug}{w w':World}(h:Ya P w)(hl:Q8 P.dl (Part.both (Qo D') (Xv G' P.O.lb P.Js P.L 0)) w w')(hap:(Qo D').apart (Xv G' P.O.lb P.Js P.L 0))
  (hd:D'.db=P.D.db) (hg:G'.db=P.G.db) (hp:Yr {P with D:=D',G:=G'}):Q8 (Qa P) (Qa {P with D:=D',G:=G'}) w w':=by
 obtain⟨k1,k2⟩:=Part.Um (C:=Xs P.O) hl h.own h.apart
 exact⟨⟨⟨hl.1.1,hl.1.2,by show G'.db=D'.db;rw[hg,hd];exact h.dl.db,hap⟩,k1,k2,h.db.trans hd.symm,hp⟩,hl.2.1.mono (fun q hq=> .inl hq),fun q hq=>hq.elim (fun hq=>(hl.2.2 q hq).imp .inl id) (fun hq=> .inl (.inr hq))⟩
theorem Ya.Q0j{P:X9}{O':Dm}{w w':World}(h:Ya P w)(hl:Q8 (Xs P.O) (Xs O') w w')(hd:O'.db=P.O.db)(hb:O'.lb=P.O.lb)(hp:Yr {P with O:=O'}):Q8 (Qa P) (Qa {P with O:=O'}) w w':=by
 obtain⟨k1,k2⟩:=Part.Um (C:=P.dl) hl ⟨h.dl.V8,h.dl.log⟩ (Part.apart.symm h.apart)
 refine⟨⟨⟨k1.1,?_,h.dl.db,?_⟩,hl.1,?_,hd.trans h.db,hp⟩,hl.2.1.mono (fun q hq=> .inr hq),fun q hq=>hq.elim (fun hq=> ?_) (fun hq=>(hl.2.2 q hq).imp .inr id)⟩
 ·show Jb P.G w' O'.lb P.Js P.L 0
  rw[hb];exact k1.2
 ·show(Qo P.D).apart (Xv P.G O'.lb P.Js P.L 0)
  rw[hb];exact h.dl.apart
 ·show(Part.both (Qo P.D) (Xv P.G O'.lb P.Js P.L 0)).apart (Xs O')
  rw[hb];exact Part.apart.symm k2
 ·have hq':(Part.both (Qo P.D) (Xv P.G O'.lb P.Js P.L 0)).U q:=hq
  rw[hb]at hq'
  exact .inl (.inl hq')
theorem Q8w.X0o{O:Dm}{vf:Value}{tab':List (Int×Int)}{w w':World}(h:Q8w O w)(hvf:vf.ownBlock=O.U3)(hof:Own Zv 3 212 0 w vf O.fr)(hl:J5 (O.pre vf) 4 O.pb O.trow tab' w w'):
  ∃trow',Q8 (Xs O) (Xs {O with trow:=trow',tab:=tab'}) w w':=by
 obtain⟨row',ht,hk,hat⟩:=hl
 have hfn:∀q,O.U3=some q->¬(q=O.pb\/some q=O.trow):=fun q hq he=>by
  rcases he with he|he
  ·exact h.ff (by rw[hq,he])
  ·exact h.ft q he.symm hq
 have hlt:=(Xs O).lt h
 refine⟨row',⟨⟨vf,hvf,hof.kp hk (fun q hq=>hfn q (by rw[<-hvf];exact hq)),ht⟩,fun f hf=>(h.Q1e f hf).kp hk (fun q hq he=> ?_),h.ff,fun q hq=> ?_,fun f hf q hq=>⟨(h.far f hf q hq).1,(h.far f hf q hq).2.1,?_⟩⟩,hk.mono (fun q hq=> ?_),fun q hq=> ?_⟩
 ·obtain⟨a1,a2,a3⟩:=h.far f hf q hq
  rcases he with he|he
  ·exact a1 he
  ·exact a3 he.symm
 ·rcases hat with rfl|hn
  ·exact h.ft q hq
  ·intro he
   have:=hn q hq
   have:=hlt q (.inr (.inl he))
   omega
 ·intro he
  rcases hat with rfl|hn
  ·exact(h.far f hf q hq).2.2 he
  ·have:=hn q he
   have:=hlt q (.inr (.inr (.inr ⟨f,hf,hq⟩)))
   omega
 ·rcases hq with hq|hq
  ·exact .inl hq
  ·exact .inr (.inr (.inl hq.symm))
 ·rcases hq with hq|hq|hq|hq
  ·exact .inl (.inl hq)
  ·exact .inl (.inr (.inl hq))
  ·rcases hat with rfl|hn
   ·exact .inl (.inr (.inr (.inl hq)))
   ·exact .inr (hn q hq)
  ·exact .inl (.inr (.inr (.inr hq)))
structure G5(P P':X9):Prop where
 pb:P'.O.pb=P.O.pb
 lb:P'.O.lb=P.O.lb
 most:P'.O.most=P.O.most
 L:P'.L=P.L
 pages:P'.pages=P.pages
 bl:P'.bl=P.bl
 pv:P'.pv=P.pv
 db:P'.O.db=P.O.db
theorem G5.refl(P:X9):G5 P P:=⟨rfl,rfl,rfl,rfl,rfl,rfl,rfl,rfl⟩
theorem G5.trans{P Q R:X9}(h:G5 P Q)(k:G5 Q R):G5 P R:=⟨k.pb.trans h.pb,k.lb.trans h.lb,k.most.trans h.most,k.L.trans h.L,k.pages.trans h.pages,k.bl.trans h.bl,k.pv.trans h.pv,k.db.trans h.db⟩
theorem Yr.Q3e{P:X9}(h:Yr P){D':Qw}(hs:∀j,j<P.pages+1->D'.c[j]? =P.D.c[j]?)(hl:D'.c.length=P.D.c.length):Yr {P with D:=D',G:={P.G with dn:=P.L.length}}:=
 {h with
  size:=by show D'.s.length=_;rw[<-Qw.Yh,hl,Qw.Yh];exact h.size
  dn:=⟨by show(0:Int)<=P.L.length;omega,by show(P.L.length:Int)<=P.L.length;omega⟩
  clean:=fun n h1 h2 h3=>by show D'.c[n]? =_;rw[hs n (by have:n<=P.pages:=h2;omega)];exact h.clean n h1 h2 h3}
theorem Y2e{β:Type}{l:List (Int×β)}(hr:Qd l){k i:Int}(h:has (X4 l k) i=false):i=k\/has l i=false:=by
 by_cases he:i=k
 ·exact .inl he
 ·right
  cases hh:has l i with
  |false=>rfl
  |true=>
   obtain⟨x,hx,hi⟩:=Qy.1 hh
   have:=Qy.2 ⟨x,(Zi hr).2 ⟨hx,by rw[hi];exact he⟩,hi⟩
   rw[h]at this
   cases this
theorem Yr.wrote{P:X9}(h:Yr P){D':Qw}{n:Nat}{f:List Int}(hc:D'.c=P.D.c.set n f)(hd:has P.O.tab n=true):Yr {P with D:=D'}:=
 {h with
  size:=by show D'.s.length=_;rw[<-Qw.Yh,hc,List.length_set,Qw.Yh];exact h.size
  clean:=fun j h1 h2 h3=>by
   show D'.c[j]? =_
   have hne:n≠j:=fun he=>by subst he;have h4:has P.O.tab n=false:=h3;rw[hd]at h4;cases h4
   rw[hc,List.getElem?_set_ne hne]
   exact h.clean j h1 h2 h3}
theorem Yr.drop{P:X9}(h:Yr P)(hr:Qd P.O.tab){n:Int}{trow':Option Nat}(hc:∀k:Nat,1<=k->k<=P.pages->(k:Int)=n->P.D.c[k]? =some (Yk (P.pv k).1 (P.pv k).2)):Yr {P with O:={P.O with trow:=trow',tab:=X4 P.O.tab n}}:=
 {h with
  clean:=fun j h1 h2 h3=>by
   rcases Y2e hr h3 with he|h4
   ·exact hc j h1 h2 he
   ·exact h.clean j h1 h2 h4
  Zt:=fun y hy=>h.Zt y ((Zi hr).1 hy).1}
theorem Ya.rising{P:X9}{w:World}(h:Ya P w):Qd P.O.tab:=by
 obtain⟨vf,_,_,ht⟩:=h.own.val
 exact ht.rising
theorem Ya.Y8n{P:X9}{w:World}(h:Ya P w):w.cell? ⟨P.O.lb,6,none⟩=some (.int .i64 P.G.dn):=by
 obtain⟨⟨A,s,c,_,hc,_⟩,_⟩:=h.dl.log
 exact(J7 hc).2.2.2.2.2.1
structure Us(P P':X9)(n:Int):Prop where
 same:G5 P P'
 fr:P'.O.fr=P.O.fr
 U3:P'.O.U3=P.O.U3
 tab:P'.O.tab=X4 P.O.tab n
 vm:P'.D.vm<=P.D.vm+1
theorem Gh{S:Nat->Prop}{w w':World}(hk:Kp S w w'){b o:Nat}{v:Value}(h:w.cell? ⟨b,o,none⟩=some v)(hn:¬S b):w'.cell? ⟨b,o,none⟩=some v:=by
 have hb:=hk.block b (World.block_lt_of_cell? _ _ h) hn
 unfold World.cell? at h ⊢
 rw[hb]
 exact h
theorem X6c{β:Type}{l:List (Int×β)}(hr:Qd l):∀(n:Nat) (a:Int),(∀y∈l,a<=y.1/\y.1<a+n)->l.length<=n:=by
 induction l with
 |nil=>intro n a _;exact Nat.zero_le _
 |cons x r ih=>
  intro n a h
  have hx:=h x List.mem_cons_self
  rcases Nat.eq_zero_or_pos n with h0|h0
  ·omega
  ·have:=ih hr.tail (n - 1) (x.1+1) (fun y hy=>by
    have h1:=hr.head y hy
    have h2:=h y (List.mem_cons_of_mem _ hy)
    omega)
   rw[List.length_cons]
   omega
theorem Yr.X0p{P:X9}(h:Yr P)(hr:Qd P.O.tab):P.O.tab.length<=32:=
 X6c hr 32 1 fun y hy=>by
  obtain⟨f,hf,he⟩:=h.Zt y hy
  have h1:=h.here f hf
  have h2:=h.pg
  omega
theorem Q2j(w:World)(P:X9)(h:Ya P w)(hvm:P.D.vm<=900000):
  Calls Tryz.prog 107 #[.pointer (some ⟨P.O.lb,0,none⟩)] w fun e w'=>e=.returned (.int .i64 0)/\∃P',Q8 (Qa P) (Qa P') w w'/\G5 P P'/\P'.O=P.O/\P'.D.vm<=P.D.vm/\P'.D.db=P.D.db:=by
 have hp:=h.plain
 refine(Q0f w P.D P.G P.O.lb P.Js P.L (P.pages+1) P.bl h.dl hp.fi hp.len hp.blk (by have:=hp.size;omega) (by have:=hp.size;have:=hp.pg;have:=hp.blk;omega) hp.dn.1 hp.dn.2 hp.Jo hvm (by have:=hp.size;omega)).mono ?_
 rintro e w' ⟨he,D',hl,hd,hs,hlen,hv,hap⟩
 exact⟨he,{P with D:=D',G:={P.G with dn:=P.L.length}},h.Q1d hl hap hd rfl (hp.Q3e hs hlen),⟨rfl,rfl,rfl,rfl,rfl,rfl,rfl,rfl⟩,rfl,hv,hd⟩
set_option maxRecDepth 4000 in
set_option maxHeartbeats 8000000 in
theorem O4(w:World)(P:X9)(n:Nat)(h:Ya P w)(hvm:P.D.vm<=800000):
  Calls Tryz.prog 66 #[.pointer (some ⟨P.O.pb,0,none⟩),.int .i64 n] w fun e w'=>e=.returned (.int .i64 0)/\∃P',Q8 (Qa P) (Qa P') w w'/\Us P P' n:=by
 have HZ:=Q0 h
 have HVM:=Q0 hvm
 obtain⟨vf0,hvf0,hof0,ht0⟩:=h.own.val
 obtain⟨A,c,v,hvf,hof,c0,c1,c2,c3,c4,lt,_⟩:=h.cells
 have l6:=h.Y8n
 have llb:=World.block_lt_of_cell? _ _ l6
 obtain⟨m,hm⟩:∃m,P.O.fr.length=m:=⟨_,rfl⟩
 rw[hm]at hof c3 hvf
 have HM:=Q0 hm
 have CF:Sc (Calls Tryz.prog 111 #[.pointer (some ⟨P.O.pb,4,none⟩),.int .i64 n] w fun e w'=>e=.returned (.tuple #[.int .i64 ((look P.O.tab n).getD 0),.bool (has P.O.tab n)])/\w=w'):=⟨Dj w P.O.pb P.O.trow P.O.tab n ht0 (by have:=h.plain.X0p h.rising;omega)⟩
 have HNO:Sc (has P.O.tab n=false->Us P P n):=⟨fun hh=>⟨G5.refl P,rfl,rfl,by rw[drop'_no hh],Nat.le_succ _⟩⟩
 clear h hm hvm hvf0 hof0 ht0
 go_enter Tryz.func66,Tryz.ntmps66
 go_wp2_with fail
 refine(Un w P n HZ.o).mono ?_
 rintro e w' ⟨r,rfl,hr,rfl⟩
 rcases hr with ⟨rfl,hno⟩|⟨k,f,rfl,hfk,hfn⟩
 ·have HH:Sc (has P.O.tab n=false):=⟨Q3g fun x hx he=>by
   obtain⟨f,hf,hfe⟩:=HZ.o.plain.Zt x hx
   exact hno f hf (by rw[hfe,he])⟩
  clear hno hvf hof
  go_wp2_with fail
  refine CF.o.mono ?_
  rintro e w' ⟨rfl,rfl⟩
  rw[HH.o]
  go_wp2
  go_ret
  exact⟨rfl,P,Part.same (A:=Qa P) HZ.o (Below.refl _ _),HNO.o HH.o⟩
 have HFK:=Q0 hfk
 have HFN:=Q0 hfn
 have hkm:k<m:=by rw[<-HM.o];exact(List.getElem?_eq_some_iff.1 hfk).1
 obtain⟨g,q,he,_,_,hq,_⟩:=hof.form (by rw[HM.o];omega)
 injection he with hA hn2 hC
 subst hA
 subst hC
 clear hn2
 obtain⟨e0,e1,e2⟩:=hof.C6 hfk
 have hk1:(k:Int)<m:=by omega
 have hk0:(0:Int)<=k:=by omega
 have hk2:¬((k:Int)<0):=by omega
 clear hfk hfn hof hvf hq e2
 cases hh:has P.O.tab n with
 |false=>
  have HH:=Q0 hh
  clear hh
  go_wp2_with fail
  refine CF.o.mono ?_
  rintro e w' ⟨rfl,rfl⟩
  rw[HH.o]
  go_wp2
  go_ret
  exact⟨rfl,P,Part.same (A:=Qa P) HZ.o (Below.refl _ _),HNO.o HH.o⟩
 |true=>
 have HHT:=Q0 hh
 clear hh
 by_cases hgt:P.G.dn<f.lsn
 ·have hgd:decide (P.G.dn<f.lsn)=true:=decide_eq_true hgt
  go_wp2_with fail
  refine CF.o.mono ?_
  rintro e w' ⟨rfl,rfl⟩
  rw[HHT.o]
  go_upto_region 5 with fail
  go_quiet (fail)
  go_wp2_with fail
  have HBD:Sc (Below w.heap.size w (w.drewN nq)):=⟨X0 (Below.refl _ _) _⟩
  refine(Q2j _ P ((Qa P).bel HZ.o HBD.o) (by have:=HVM.o;omega)).mono ?_
  rintro e w1 ⟨rfl,P1,hl1,hs1,ho1,hv1,_⟩
  have HL1:Sc (Q8 (Qa P) (Qa P1) w w1):=⟨Part.from_ hl1 HBD.o⟩
  have HZ1:Sc (Ya P1 w1):=⟨hl1.1⟩
  have HO1:=Q0 ho1
  have HS1:=Q0 hs1
  have HV1:=Q0 hv1
  have HVM1:Sc (P1.D.vm<=800000):=⟨by have:=HVM.o;omega⟩
  clear hl1 hs1 ho1 hv1 c0 c1 c2 c3 c4 lt l6 llb e0 e1
  obtain⟨A1,k1,v1,hvf1,hof1,c0,c1,c2,c3,c4,lt1,fr1⟩:=HZ1.o.cells
  rw[HO1.o]at hvf1 hof1 c0 c1 c2 c3 c4 lt1 fr1
  rw[HM.o]at hvf1 hof1 c3
  obtain⟨g1,q1,he1,_,_,hq1,_⟩:=hof1.form (by rw[HM.o];omega)
  injection he1 with hA1 hn1 hC1
  subst hA1
  subst hC1
  clear hn1
  obtain⟨e0,e1,e2⟩:=hof1.C6 HFK.o
  have HPG:Sc (f.lsn=(P1.pv n).1/\f.l=(P1.pv n).2/\f.l.length<=20):=⟨by
   have h1:=(HZ1.o.plain.here f (by rw[HO1.o];exact List.mem_of_getElem? HFK.o)).2.2
   rw[HFN.o]at h1
   have h2:=(HZ1.o.plain.ok n).1.2.2.1
   rw[h1]at h2
   exact⟨by rw[h1],by rw[h1],h2⟩⟩
  have HEN:Sc (Own Qj 2 227 0 w1 (.slice f.A f.s f.c) f.l):=⟨HZ1.o.own.Q1e f (by rw[HO1.o];exact List.mem_of_getElem? HFK.o)⟩
  have HFB:Sc (∀q,q=P.O.pb\/q=g1->¬(Qo P1.D).U q):=⟨fun q hq hu=>by
   refine HZ1.o.apart q (.inl hu) ?_
   show X2j P1.O q
   rw[HO1.o]
   rcases hq with rfl|rfl
   ·exact .inl rfl
   ·exact .inr (.inl (by rw[<-hvf1];rfl))⟩
  have HSW:Sc (∀W,Below w1.heap.size w1 W->W.cell? ⟨P.O.pb,0,none⟩=some (.pointer (some ⟨P1.D.db,0,none⟩))/\W.cell? ⟨P.O.pb,3,none⟩=some (.slice (some ⟨g1,0,none⟩) m k1)/\W.cell? ⟨g1,k*3+1,none⟩=some (.int .i64 f.lsn)/\W.cell? ⟨g1,k*3+2,none⟩=some f.v):=⟨fun W hW=>⟨(hW.cell (World.block_lt_of_cell? _ _ c0)).trans c0,(hW.cell (World.block_lt_of_cell? _ _ c3)).trans c3,(hW.cell (World.block_lt_of_cell? _ _ e1)).trans e1,(hW.cell (World.block_lt_of_cell? _ _ e2)).trans e2⟩⟩
  have CB:Sc (∀X,Below w1.heap.size w1 X->Calls Tryz.prog 112 #[.agg #[.int .i64 f.lsn,.slice f.A f.s f.c]] X fun e w'=>∃vb,e=.returned vb/\RdB w' vb (Yk f.lsn f.l)/\Below w1.heap.size w1 w'):=⟨fun X hX=>(E2 X 0 f.lsn f.v f.l (HEN.o.below hX) HPG.o.2.2).mono fun e w' ⟨vb,he,ho,hb⟩=>⟨vb,he,ho.rd,hX.trans (hb.mono hX.size)⟩⟩
  have CW:Sc (∀X vb,Below w1.heap.size w1 X->RdB X vb (Yk f.lsn f.l)->Calls Tryz.prog 89 #[.pointer (some ⟨P1.D.db,0,none⟩),.int .i64 n,vb] X fun e w'=>e=.returned (.int .i64 0)/\(∃P2,Q8 (Qa P1) (Qa P2) w1 w'/\G5 P1 P2/\P2.O=P1.O/\P2.D.vm<=P1.D.vm+1/\P2.D.c=P1.D.c.set n (Yk f.lsn f.l))/\(w'.cell? ⟨P.O.pb,0,none⟩=some (.pointer (some ⟨P1.D.db,0,none⟩))/\w'.cell? ⟨P.O.pb,3,none⟩=some (.slice (some ⟨g1,0,none⟩) m k1)/\w'.cell? ⟨g1,k*3+1,none⟩=some (.int .i64 f.lsn)/\w'.cell? ⟨g1,k*3+2,none⟩=some f.v)):=⟨fun X vb hX hr=>by
   have hx:=(Qa P1).bel HZ1.o hX
   have hp:=HZ1.o.plain
   have hlen:(Yk f.lsn f.l).length=256:=Vz _ _
   have hn1:=(hp.here f (by rw[HO1.o];exact List.mem_of_getElem? HFK.o)).2.1
   rw[HFN.o]at hn1
   refine(V9 P1.D X n vb (Yk f.lsn f.l) hx.dl.V8 (by have:=hp.size;omega) hr hlen (by have:=HVM1.o;omega)).mono ?_
   rintro e w' ⟨he,D2,hl,hd,hc,hv⟩
   have hk:=hl.2.1
   obtain⟨s0,s1,s2,s3⟩:=HSW.o X hX
   have hdl:=Part.left (C:=P1.lp) hl hx.dl.log hx.dl.apart
   have hap:=(Part.Um (C:=P1.lp) hl hx.dl.log hx.dl.apart).2
   exact⟨he,⟨{P1 with D:=D2,G:=P1.G},Part.from_ (hx.Q1d hdl hap hd rfl (hp.wrote hc (by rw[HO1.o];exact HHT.o))) hX,⟨rfl,rfl,rfl,rfl,rfl,rfl,rfl,rfl⟩,rfl,hv,hc⟩,Gh hk s0 (HFB.o _ (.inl rfl)),Gh hk s1 (HFB.o _ (.inl rfl)),Gh hk s2 (HFB.o _ (.inr rfl)),Gh hk s3 (HFB.o _ (.inr rfl))⟩⟩
  have HQ:Sc (Below w1.heap.size w1 w1):=⟨Below.refl _ _⟩
  obtain⟨pb,hpb⟩:∃pb,P.O.pb=pb:=⟨_,rfl⟩
  rw[hpb]at c0 c1 c2 c3 c4 lt1 fr1 HSW CW ⊢
  have HPB:=Q0 hpb
  obtain⟨db1,hdb1⟩:∃db1,P1.D.db=db1:=⟨_,rfl⟩
  rw[hdb1]at c0 HSW CW
  clear hpb hdb1 hvf1 hof1 hq1 e0
  go_wp2_with fail
  go_region_held3 (fun W=>W.cell? ⟨pb,0,none⟩=some (.pointer (some ⟨db1,0,none⟩))/\W.cell? ⟨pb,3,none⟩=some (.slice (some ⟨g1,0,none⟩) m k1)/\W.cell? ⟨g1,k*3+1,none⟩=some (.int .i64 f.lsn)/\W.cell? ⟨g1,k*3+2,none⟩=some (.slice f.A f.s f.c))
   (first|with_reducible exact HSW.o _ HQ.o|with_reducible exact HSW.o _ (Below.drew HQ.o)|with_reducible exact HS3.o)
   (first
    |(go_at_call 112;go_loud (refine(CB.o _ (by first|with_reducible exact HQ.o|with_reducible exact Below.drew HQ.o)).mono ?_;rintro e wt ⟨vb,rfl,hr,hq⟩;have HQ:=Q0 hq;have HRB:=Q0 hr;clear hq hr))
    |(go_at_call 89;go_loud (refine(CW.o _ vb HQ.o HRB.o).mono ?_;rintro e wu ⟨rfl,hpp,hss⟩;have HS3:=Q0 hss;have HPP:=Q0 hpp;clear hpp hss)))
  obtain⟨P2,hl2,hs2,ho2,hv2,hc2⟩:=HPP.o
  obtain⟨vf2,hvf2,hof2,ht2⟩:=hl2.1.own.val
  have HL2:=Q0 hl2
  have HS2:=Q0 hs2
  have HO2:Sc (P2.O=P.O):=⟨by rw[ho2,HO1.o]⟩
  have HV2:=Q0 hv2
  have HC2:=Q0 hc2
  have HVF2:=Q0 hvf2
  have HOF2:=Q0 hof2
  have CD:Sc (Calls Tryz.prog 113 #[.pointer (some ⟨pb,4,none⟩),.int .i64 n] wu fun e w'=>e=.returned (.bool (has P2.O.tab n))/\J5 (P2.O.pre vf2) 4 P2.O.pb P2.O.trow (X4 P2.O.tab n) wu w'):=⟨by
   have:=Q5y wu P2.O.pb P2.O.trow P2.O.tab n ht2 (by have:=hl2.1.plain.X0p hl2.1.rising;omega)
   rw[show P2.O.pb=pb from by rw[HO2.o,HPB.o]]at this ⊢
   exact this⟩
  have lt2:pb<wu.heap.size:=by
   have:=ht2.lt.1
   rw[HO2.o,HPB.o]at this
   exact this
  clear hl2 hs2 ho2 hv2 hc2 hvf2 hof2 ht2 c0 c1 c2 c3 c4 e1 e2 fr1
  go_wp2_with fail
  refine CD.o.mono ?_
  rintro e w3 ⟨rfl,hz3⟩
  obtain⟨trow3,hl3⟩:=HL2.o.1.own.X0o HVF2.o HOF2.o hz3
  have HL3:Sc (Q8 (Qa P) (Qa {P2 with O:={P2.O with trow:=trow3,tab:=X4 P2.O.tab n}}) w w3):=⟨Part.trans HL1.o (Part.trans HL2.o (HL2.o.1.Q0j hl3 rfl rfl (HL2.o.1.plain.drop HL2.o.1.rising (fun j hj1 hj2 hj=>by
   obtain rfl:j=n:=by omega
   have hlen:=HZ1.o.plain.size
   have hp2:P2.pages=P1.pages:=HS2.o.pages
   rw[HC2.o,List.getElem?_set_self (by rw[Qw.Yh];omega),HS2.o.pv,<-HPG.o.1,<-HPG.o.2.1]))))⟩
  have HFD:Sc (Us P {P2 with O:={P2.O with trow:=trow3,tab:=X4 P2.O.tab n}} n):=⟨⟨⟨by show P2.O.pb=_;rw[HO2.o],by show P2.O.lb=_;rw[HO2.o],by show P2.O.most=_;rw[HO2.o],HS2.o.L.trans HS1.o.L,HS2.o.pages.trans HS1.o.pages,HS2.o.bl.trans HS1.o.bl,HS2.o.pv.trans HS1.o.pv,by show P2.O.db=_;rw[HO2.o]⟩,by show P2.O.fr=_;rw[HO2.o],by show P2.O.U3=_;rw[HO2.o],by show X4 P2.O.tab n=_;rw[HO2.o],by have:=HV2.o;have:=HV1.o;show P2.D.vm<=_;omega⟩⟩
  clear hz3 hl3
  go_wp2
  go_ret
  exact⟨rfl,_,HL3.o,HFD.o⟩
 ·have hgd:decide (P.G.dn<f.lsn)=false:=decide_eq_false hgt
  go_wp2_with fail
  refine CF.o.mono ?_
  rintro e w' ⟨rfl,rfl⟩
  rw[HHT.o]
  go_upto_region 5 with fail
  go_quiet (fail)
  have HBD:Sc (Below w.heap.size w (w.drewN nq)):=⟨X0 (Below.refl _ _) _⟩
  obtain⟨w1,hw1⟩:∃w1,w.drewN nq=w1:=⟨_,rfl⟩
  rw[hw1]at HBD ⊢
  clear hw1
  obtain⟨P1,hP1⟩:∃P1,P1=P:=⟨P,rfl⟩
  have HL1:Sc (Q8 (Qa P) (Qa P1) w w1):=⟨hP1▸Part.same (A:=Qa P) HZ.o HBD.o⟩
  have HZ1:Sc (Ya P1 w1):=⟨HL1.o.1⟩
  have HO1:Sc (P1.O=P.O):=⟨by rw[hP1]⟩
  have HS1:Sc (G5 P P1):=⟨by rw[hP1];exact G5.refl P⟩
  have HV1:Sc (P1.D.vm<=P.D.vm):=⟨by rw[hP1];exact Nat.le_refl _⟩
  have HVM1:Sc (P1.D.vm<=800000):=⟨by rw[hP1];exact HVM.o⟩
  clear hP1 c0 c1 c2 c3 c4 lt l6 llb e0 e1
  obtain⟨A1,k1,v1,hvf1,hof1,c0,c1,c2,c3,c4,lt1,fr1⟩:=HZ1.o.cells
  rw[HO1.o]at hvf1 hof1 c0 c1 c2 c3 c4 lt1 fr1
  rw[HM.o]at hvf1 hof1 c3
  obtain⟨g1,q1,he1,_,_,hq1,_⟩:=hof1.form (by rw[HM.o];omega)
  injection he1 with hA1 hn1 hC1
  subst hA1
  subst hC1
  clear hn1
  obtain⟨e0,e1,e2⟩:=hof1.C6 HFK.o
  have HPG:Sc (f.lsn=(P1.pv n).1/\f.l=(P1.pv n).2/\f.l.length<=20):=⟨by
   have h1:=(HZ1.o.plain.here f (by rw[HO1.o];exact List.mem_of_getElem? HFK.o)).2.2
   rw[HFN.o]at h1
   have h2:=(HZ1.o.plain.ok n).1.2.2.1
   rw[h1]at h2
   exact⟨by rw[h1],by rw[h1],h2⟩⟩
  have HEN:Sc (Own Qj 2 227 0 w1 (.slice f.A f.s f.c) f.l):=⟨HZ1.o.own.Q1e f (by rw[HO1.o];exact List.mem_of_getElem? HFK.o)⟩
  have HFB:Sc (∀q,q=P.O.pb\/q=g1->¬(Qo P1.D).U q):=⟨fun q hq hu=>by
   refine HZ1.o.apart q (.inl hu) ?_
   show X2j P1.O q
   rw[HO1.o]
   rcases hq with rfl|rfl
   ·exact .inl rfl
   ·exact .inr (.inl (by rw[<-hvf1];rfl))⟩
  have HSW:Sc (∀W,Below w1.heap.size w1 W->W.cell? ⟨P.O.pb,0,none⟩=some (.pointer (some ⟨P1.D.db,0,none⟩))/\W.cell? ⟨P.O.pb,3,none⟩=some (.slice (some ⟨g1,0,none⟩) m k1)/\W.cell? ⟨g1,k*3+1,none⟩=some (.int .i64 f.lsn)/\W.cell? ⟨g1,k*3+2,none⟩=some f.v):=⟨fun W hW=>⟨(hW.cell (World.block_lt_of_cell? _ _ c0)).trans c0,(hW.cell (World.block_lt_of_cell? _ _ c3)).trans c3,(hW.cell (World.block_lt_of_cell? _ _ e1)).trans e1,(hW.cell (World.block_lt_of_cell? _ _ e2)).trans e2⟩⟩
  have CB:Sc (∀X,Below w1.heap.size w1 X->Calls Tryz.prog 112 #[.agg #[.int .i64 f.lsn,.slice f.A f.s f.c]] X fun e w'=>∃vb,e=.returned vb/\RdB w' vb (Yk f.lsn f.l)/\Below w1.heap.size w1 w'):=⟨fun X hX=>(E2 X 0 f.lsn f.v f.l (HEN.o.below hX) HPG.o.2.2).mono fun e w' ⟨vb,he,ho,hb⟩=>⟨vb,he,ho.rd,hX.trans (hb.mono hX.size)⟩⟩
  have CW:Sc (∀X vb,Below w1.heap.size w1 X->RdB X vb (Yk f.lsn f.l)->Calls Tryz.prog 89 #[.pointer (some ⟨P1.D.db,0,none⟩),.int .i64 n,vb] X fun e w'=>e=.returned (.int .i64 0)/\(∃P2,Q8 (Qa P1) (Qa P2) w1 w'/\G5 P1 P2/\P2.O=P1.O/\P2.D.vm<=P1.D.vm+1/\P2.D.c=P1.D.c.set n (Yk f.lsn f.l))/\(w'.cell? ⟨P.O.pb,0,none⟩=some (.pointer (some ⟨P1.D.db,0,none⟩))/\w'.cell? ⟨P.O.pb,3,none⟩=some (.slice (some ⟨g1,0,none⟩) m k1)/\w'.cell? ⟨g1,k*3+1,none⟩=some (.int .i64 f.lsn)/\w'.cell? ⟨g1,k*3+2,none⟩=some f.v)):=⟨fun X vb hX hr=>by
   have hx:=(Qa P1).bel HZ1.o hX
   have hp:=HZ1.o.plain
   have hlen:(Yk f.lsn f.l).length=256:=Vz _ _
   have hn1:=(hp.here f (by rw[HO1.o];exact List.mem_of_getElem? HFK.o)).2.1
   rw[HFN.o]at hn1
   refine(V9 P1.D X n vb (Yk f.lsn f.l) hx.dl.V8 (by have:=hp.size;omega) hr hlen (by have:=HVM1.o;omega)).mono ?_
   rintro e w' ⟨he,D2,hl,hd,hc,hv⟩
   have hk:=hl.2.1
   obtain⟨s0,s1,s2,s3⟩:=HSW.o X hX
   have hdl:=Part.left (C:=P1.lp) hl hx.dl.log hx.dl.apart
   have hap:=(Part.Um (C:=P1.lp) hl hx.dl.log hx.dl.apart).2
   exact⟨he,⟨{P1 with D:=D2,G:=P1.G},Part.from_ (hx.Q1d hdl hap hd rfl (hp.wrote hc (by rw[HO1.o];exact HHT.o))) hX,⟨rfl,rfl,rfl,rfl,rfl,rfl,rfl,rfl⟩,rfl,hv,hc⟩,Gh hk s0 (HFB.o _ (.inl rfl)),Gh hk s1 (HFB.o _ (.inl rfl)),Gh hk s2 (HFB.o _ (.inr rfl)),Gh hk s3 (HFB.o _ (.inr rfl))⟩⟩
  have HQ:Sc (Below w1.heap.size w1 w1):=⟨Below.refl _ _⟩
  obtain⟨pb,hpb⟩:∃pb,P.O.pb=pb:=⟨_,rfl⟩
  rw[hpb]at c0 c1 c2 c3 c4 lt1 fr1 HSW CW ⊢
  have HPB:=Q0 hpb
  obtain⟨db1,hdb1⟩:∃db1,P1.D.db=db1:=⟨_,rfl⟩
  rw[hdb1]at c0 HSW CW
  clear hpb hdb1 hvf1 hof1 hq1 e0
  go_wp2_with fail
  go_region_held3 (fun W=>W.cell? ⟨pb,0,none⟩=some (.pointer (some ⟨db1,0,none⟩))/\W.cell? ⟨pb,3,none⟩=some (.slice (some ⟨g1,0,none⟩) m k1)/\W.cell? ⟨g1,k*3+1,none⟩=some (.int .i64 f.lsn)/\W.cell? ⟨g1,k*3+2,none⟩=some (.slice f.A f.s f.c))
   (first|with_reducible exact HSW.o _ HQ.o|with_reducible exact HSW.o _ (Below.drew HQ.o)|with_reducible exact HS3.o)
   (first
    |(go_at_call 112;go_loud (refine(CB.o _ (by first|with_reducible exact HQ.o|with_reducible exact Below.drew HQ.o)).mono ?_;rintro e wt ⟨vb,rfl,hr,hq⟩;have HQ:=Q0 hq;have HRB:=Q0 hr;clear hq hr))
    |(go_at_call 89;go_loud (refine(CW.o _ vb HQ.o HRB.o).mono ?_;rintro e wu ⟨rfl,hpp,hss⟩;have HS3:=Q0 hss;have HPP:=Q0 hpp;clear hpp hss)))
  obtain⟨P2,hl2,hs2,ho2,hv2,hc2⟩:=HPP.o
  obtain⟨vf2,hvf2,hof2,ht2⟩:=hl2.1.own.val
  have HL2:=Q0 hl2
  have HS2:=Q0 hs2
  have HO2:Sc (P2.O=P.O):=⟨by rw[ho2,HO1.o]⟩
  have HV2:=Q0 hv2
  have HC2:=Q0 hc2
  have HVF2:=Q0 hvf2
  have HOF2:=Q0 hof2
  have CD:Sc (Calls Tryz.prog 113 #[.pointer (some ⟨pb,4,none⟩),.int .i64 n] wu fun e w'=>e=.returned (.bool (has P2.O.tab n))/\J5 (P2.O.pre vf2) 4 P2.O.pb P2.O.trow (X4 P2.O.tab n) wu w'):=⟨by
   have:=Q5y wu P2.O.pb P2.O.trow P2.O.tab n ht2 (by have:=hl2.1.plain.X0p hl2.1.rising;omega)
   rw[show P2.O.pb=pb from by rw[HO2.o,HPB.o]]at this ⊢
   exact this⟩
  have lt2:pb<wu.heap.size:=by
   have:=ht2.lt.1
   rw[HO2.o,HPB.o]at this
   exact this
  clear hl2 hs2 ho2 hv2 hc2 hvf2 hof2 ht2 c0 c1 c2 c3 c4 e1 e2 fr1
  go_wp2_with fail
  refine CD.o.mono ?_
  rintro e w3 ⟨rfl,hz3⟩
  obtain⟨trow3,hl3⟩:=HL2.o.1.own.X0o HVF2.o HOF2.o hz3
  have HL3:Sc (Q8 (Qa P) (Qa {P2 with O:={P2.O with trow:=trow3,tab:=X4 P2.O.tab n}}) w w3):=⟨Part.trans HL1.o (Part.trans HL2.o (HL2.o.1.Q0j hl3 rfl rfl (HL2.o.1.plain.drop HL2.o.1.rising (fun j hj1 hj2 hj=>by
   obtain rfl:j=n:=by omega
   have hlen:=HZ1.o.plain.size
   have hp2:P2.pages=P1.pages:=HS2.o.pages
   rw[HC2.o,List.getElem?_set_self (by rw[Qw.Yh];omega),HS2.o.pv,<-HPG.o.1,<-HPG.o.2.1]))))⟩
  have HFD:Sc (Us P {P2 with O:={P2.O with trow:=trow3,tab:=X4 P2.O.tab n}} n):=⟨⟨⟨by show P2.O.pb=_;rw[HO2.o],by show P2.O.lb=_;rw[HO2.o],by show P2.O.most=_;rw[HO2.o],HS2.o.L.trans HS1.o.L,HS2.o.pages.trans HS1.o.pages,HS2.o.bl.trans HS1.o.bl,HS2.o.pv.trans HS1.o.pv,by show P2.O.db=_;rw[HO2.o]⟩,by show P2.O.fr=_;rw[HO2.o],by show P2.O.U3=_;rw[HO2.o],by show X4 P2.O.tab n=_;rw[HO2.o],by have:=HV2.o;have:=HV1.o;show P2.D.vm<=_;omega⟩⟩
  clear hz3 hl3
  go_wp2
  go_ret
  exact⟨rfl,_,HL3.o,HFD.o⟩
structure Calm(P P':X9)(d:Nat):Prop where
 same:G5 P P'
 tab:∀y∈P'.O.tab,y∈P.O.tab
 vm:P'.D.vm<=P.D.vm+d
theorem Calm.refl(P:X9)(d:Nat):Calm P P d:=⟨G5.refl P,fun _ h=>h,Nat.le_add_right _ _⟩
theorem Calm.trans{P Q R:X9}{d e:Nat}(h:Calm P Q d)(k:Calm Q R e):Calm P R (d+e):=⟨h.same.trans k.same,fun y hy=>h.tab y (k.tab y hy),by have:=h.vm;have:=k.vm;omega⟩
theorem Calm.mono{P Q:X9}{d e:Nat}(h:Calm P Q d)(k:d<=e):Calm P Q e:=⟨h.same,h.tab,by have:=h.vm;omega⟩
theorem Us.calm{P P':X9}{n:Int}(h:Us P P' n):Calm P P' 1:=⟨h.same,fun y hy=>by rw[h.tab]at hy;exact Df hy,h.vm⟩
theorem Yr.vm1{P:X9}{w:World}(h:Ya P w):1<=P.D.vm:=h.dl.V8.vm1 (by have:=h.plain.size;omega)
theorem Q9w(w:World)(P:X9)(h:Ya P w):
  Calls Tryz.prog 91 #[.pointer (some ⟨P.D.db,0,none⟩)] w fun e w'=>e=.returned (.int .i64 0)/\∃P',Q8 (Qa P) (Qa P') w w'/\Calm P P' 0/\P'.O=P.O/\P'.D.db=P.D.db/\P'.D.vm=1:=by
 have hp:=h.plain
 have h1:=Yr.vm1 h
 refine(Ov P.D w h.dl.V8 h1 (by have:=hp.size;have:=hp.pg;have:=hp.blk;omega)).mono ?_
 rintro e w' ⟨he,hl⟩
 have hdl:=Part.left (C:=P.lp) hl h.dl.log h.dl.apart
 have hap:=(Part.Um (C:=P.lp) hl h.dl.log h.dl.apart).2
 refine⟨he,{P with D:=P.D.done,G:=P.G},h.Q1d hdl hap rfl rfl {hp with size:= ?_,clean:=fun n a b c=> ?_},⟨⟨rfl,rfl,rfl,rfl,rfl,rfl,rfl,rfl⟩,fun _ h=>h,?_⟩,rfl,rfl,rfl⟩
 ·show P.D.done.s.length=_
  rw[<-Qw.Yh,Q4e,Qw.Yh];exact hp.size
 ·show P.D.done.c[n]? =_
  rw[Q4e];exact hp.clean n a b c
 ·show 1<=P.D.vm+0;omega
set_option maxRecDepth 4000 in
set_option maxHeartbeats 4000000 in
theorem Q1j(w:World)(P:X9)(h:Ya P w)(hvm:P.D.vm<=700000):
  Calls Tryz.prog 67 #[.pointer (some ⟨P.O.pb,0,none⟩)] w fun e w'=>e=.returned (.int .i64 0)/\∃P',Q8 (Qa P) (Qa P') w w'/\Calm P P' 0:=by
 have HZ:=Q0 h
 have HVM:=Q0 hvm
 obtain⟨pb,hpb⟩:∃pb,P.O.pb=pb:=⟨_,rfl⟩
 rw[hpb]
 have HPB:=Q0 hpb
 clear h hvm hpb
 go_enter Tryz.func67,Tryz.ntmps67
 go_wp2_with fail
 go_loopg [3,4] 33 (fun kx s3 s4 wr=>∃(n:Nat) (P1:X9),s3=.int .i64 n/\n<=33/\33 - n<=kx/\Sc (Q8 (Qa P) (Qa P1) w wr)/\Sc (Calm P P1 n))
 case atStart=>exact⟨0,P,rfl,by omega,by omega,⟨Part.same (A:=Qa P) HZ.o (Below.refl _ _)⟩,⟨Calm.refl P 0⟩⟩
 case round=>
  obtain⟨n,P1,rfl,hn,hg,HL,HC⟩:=hrel
  have HPB1:Sc (P1.O.pb=pb):=⟨by rw[HC.o.same.pb,HPB.o]⟩
  by_cases hlt:n<=32
  ·have hlt':(n:Int)<=32:=by omega
   have hwi:IntKind.i64.wrap ((n:Int)+1)=(n:Int)+1:=IntWalk.i64_in _ ⟨by omega,by omega⟩
   have CF:Sc (Calls Tryz.prog 66 #[.pointer (some ⟨pb,0,none⟩),.int .i64 n] wr fun e w'=>e=.returned (.int .i64 0)/\∃P',Q8 (Qa P1) (Qa P') wr w'/\Us P1 P' n):=⟨by
    have:=O4 wr P1 n HL.o.1 (by have:=HVM.o;have:=HC.o.vm;omega)
    rw[HPB1.o]at this
    exact this⟩
   go_wp2_with fail
   refine CF.o.mono ?_
   rintro e w2 ⟨rfl,P2,hl2,hf2⟩
   have HL2:Sc (Q8 (Qa P) (Qa P2) w w2):=⟨Part.trans HL.o hl2⟩
   have HC2:Sc (Calm P P2 (n+1)):=⟨HC.o.trans hf2.calm⟩
   clear hl2 hf2
   go_wp2
   go_roundg (33 - (n+1))
   case measure=>omega
   case rel=>exact⟨n+1,P2,by go_num,by omega,Nat.le_refl _,HL2,HC2⟩
  ·have hlt':¬((n:Int)<=32):=by omega
   obtain⟨A,c,v,_,_,c0,_,_,_,_,lt,_⟩:=HL.o.1.cells
   rw[HPB1.o]at c0 lt
   go_wp2_with fail
   refine(Q9w wr P1 HL.o.1).mono ?_
   rintro e w2 ⟨rfl,P2,hl2,hc2,_,_,hv2⟩
   have HE:Sc (Q8 (Qa P) (Qa P2) w w2/\Calm P P2 0):=⟨Part.trans HL.o hl2,⟨(HC.o.trans hc2).same,(HC.o.trans hc2).tab,by have:=Yr.vm1 HZ.o;omega⟩⟩
   clear hl2 hc2 hv2
   go_wp2
   go_ret
   exact⟨rfl,P2,HE.o.1,HE.o.2⟩
theorem Q8w.Xf{O:Dm}{w w2:World}{v4:Value}{fr':List FrV}(h:Q8w O w)(hb:Below w.heap.size w w2)(hown:Own Zv 3 212 w.heap.size w2 v4 fr')(he:∀f∈fr',f∈O.fr\/Own Qj 2 227 w.heap.size w2 f.v f.l)(hd:∀f∈fr',∀q,f.v.ownBlock=some q->v4.ownBlock≠some q):
  Q8 (Xs O) (Xs {O with U3:=v4.ownBlock,fr:=fr'}) w (w2.setCell ⟨O.pb,3,none⟩ v4):=by
 have hlt:=(Xs O).lt h
 have hpb:O.pb<w.heap.size:=hlt _ (.inl rfl)
 have hk:Kp (fun q=>q=O.pb) w2 (w2.setCell ⟨O.pb,3,none⟩ v4):=Kp.setCell w2 ⟨O.pb,3,none⟩ v4
 have hkw:Kp (fun q=>q=O.pb) w (w2.setCell ⟨O.pb,3,none⟩ v4):=(Kp.Qi hb _).trans hk (fun _ h=> .inl h)
 have hv4:∀q,v4.ownBlock=some q->w.heap.size<=q:=fun q hq=>(hown.lt q hq).1
 obtain⟨vf,hvf,hof,⟨v,hv,hc,ho⟩,hap,hri⟩:=h.val
 have hcb:=up hb hc.at
 refine⟨⟨⟨v4,rfl,(hown.mono (Nat.zero_le _)).kp hk (fun q hq he=>by have:=hv4 q hq;omega),⟨⟨v,hv,⟨rfl,?_⟩,ho.kp hkw (fun q hq he=>hap (by rw[<-hv,hq,he]))⟩,hap,hri⟩⟩,fun f hf=> ?_,fun he=>by have h1:w.heap.size<=O.pb:=hv4 _ he;omega,fun q hq he=>by have:=hv4 _ he;have:=hlt q (.inr (.inr (.inl hq)));omega,fun f hf q hq=> ?_⟩,hkw.mono (fun q hq=> .inl hq),fun q hq=> ?_⟩
 ·rw[Qn hcb 3 v4]
  simp[Dm.pre]
 ·rcases he f hf with h1|h1
  ·exact(h.Q1e f h1).kp hkw (fun q hq he=>(h.far f h1 q hq).1 he)
  ·exact(h1.mono (Nat.zero_le _)).kp hk (fun q hq he=>by have:=(h1.lt q hq).1;omega)
 ·refine⟨?_,hd f hf q hq,?_⟩
  ·rcases he f hf with h1|h1
   ·exact(h.far f h1 q hq).1
   ·have:=(h1.lt q hq).1;show q≠O.pb;omega
  ·rcases he f hf with h1|h1
   ·exact(h.far f h1 q hq).2.2
   ·intro ht
    have:=(h1.lt q hq).1
    have:=hlt q (.inr (.inr (.inl ht)))
    omega
 ·rcases hq with hq|hq|hq|⟨f,hf,hq⟩
  ·exact .inl (.inl hq)
  ·exact .inr (hv4 q hq)
  ·exact .inl (.inr (.inr (.inl hq)))
  ·rcases he f hf with h1|h1
   ·exact .inl (.inr (.inr (.inr ⟨f,h1,hq⟩)))
   ·exact .inr (h1.lt q hq).1
theorem Og{α:Type}{l:List α}{k:Nat}{x:α}(h:x∈l.take k++l.drop (k+1)):x∈l:=by
 rcases List.mem_append.1 h with h|h
 ·exact List.mem_of_mem_take h
 ·exact List.mem_of_mem_drop h
theorem X2b{α:Type}{l:List α}{k:Nat}{x y:α}(hx:x∈l)(hk:l[k]? =some y)(hne:x≠y):x∈l.take k++l.drop (k+1):=by
 have hl:=(List.getElem?_eq_some_iff.1 hk).1
 have e:l=l.take k++y::l.drop (k+1):=by
  have:=List.drop_eq_getElem_cons hl
  rw[(List.getElem?_eq_some_iff.1 hk).2]at this
  rw[<-this,List.take_append_drop]
 rw[e]at hx
 rcases List.mem_append.1 hx with h|h
 ·exact List.mem_append_left _ h
 ·rcases List.mem_cons.1 h with h|h
  ·exact absurd h hne
  ·exact List.mem_append_right _ h
theorem X3c{α:Type}(l:List α)(k:Nat):List.Sublist (l.take k++l.drop (k+1)) l:=by
 have h:List.Sublist (l.drop (k+1)) (l.drop k):=by
  rw[<-List.drop_drop]
  exact List.drop_sublist _ _
 have h2:=List.Sublist.append (List.Sublist.refl (l.take k)) h
 rwa [List.take_append_drop]at h2
theorem Yr.Y6l{P:X9}(h:Yr P){k:Nat}{f:FrV}(hk:P.O.fr[k]? =some f)(hd:∀y∈P.O.tab,y.1≠f.n){U3:Option Nat}:Yr {P with O:={P.O with U3:=U3,fr:=P.O.fr.take k++P.O.fr.drop (k+1)}}:=
 {h with
  few:=Nat.le_trans (X3c P.O.fr k).length_le h.few
  here:=fun g hg=>h.here g (Og hg)
  one:=h.one.sublist ((X3c P.O.fr k).map _)
  Zt:=fun y hy=>by
   obtain⟨g,hg,he⟩:=h.Zt y hy
   exact⟨g,X2b hg hk (fun hh=>hd y hy (by rw[<-he,hh])),he⟩}
set_option maxRecDepth 4000 in
set_option maxHeartbeats 8000000 in
theorem Ds(w:World)(P:X9)(hint:Nat)(h:Ya P w)(hvm:P.D.vm<=800000)(h1:1<=P.O.fr.length)(hh:hint<=1000000):
  Calls Tryz.prog 68 #[.pointer (some ⟨P.O.pb,0,none⟩),.int .i64 hint] w fun e w'=>e=.returned (.int .i64 0)/\∃P',Q8 (Qa P) (Qa P') w w'/\Calm P P' 1/\P'.O.fr.length+1=P.O.fr.length/\∀g∈P'.O.fr,g∈P.O.fr:=by
 obtain⟨i0,hi0,hz0,hz1,hz2⟩:=info_parts Y6m
 have HZ:=Q0 h
 have HVM:=Q0 hvm
 obtain⟨A,c,v,hvf,hof,c0,c1,c2,c3,c4,lt,_⟩:=h.cells
 obtain⟨m,hm⟩:∃m,P.O.fr.length=m:=⟨_,rfl⟩
 have hm8:m<=8:=by have:=h.plain.few;have:=h.plain.most;omega
 rw[hm]at hof c3 hvf h1 ⊢
 have HM:=Q0 hm
 obtain⟨k,hk⟩:∃k:Nat,hint % m=k:=⟨_,rfl⟩
 have hkm:k<m:=by rw[<-hk];exact Nat.mod_lt _ (by omega)
 have hki:(hint:Int) % (m:Int)=(k:Int):=by omega
 obtain⟨f,hfk⟩:∃f,P.O.fr[k]? =some f:=⟨_,List.getElem?_eq_getElem (by omega)⟩
 have HFK:=Q0 hfk
 obtain⟨nn,hnn⟩:∃nn:Nat,f.n=nn:=⟨f.n.toNat,by have:=(h.plain.here f (List.mem_of_getElem? hfk)).1;omega⟩
 have HNN:=Q0 hnn
 obtain⟨g,q,he,_,_,hq,_⟩:=hof.form (by omega)
 injection he with hA hn2 hC
 subst hA
 subst hC
 clear hn2
 obtain⟨e0,_,_⟩:=hof.C6 hfk
 rw[hnn]at e0
 have b1:¬((m:Int)=0):=by omega
 have b2:((m:Int)==0)=false:=by simp;omega
 have b3:(k:Int)<m:=by omega
 have b4:¬((hint:Int)<0):=by omega
 obtain⟨pb,hpb⟩:∃pb,P.O.pb=pb:=⟨_,rfl⟩
 rw[hpb]at c0 c1 c2 c3 c4 lt ⊢
 have HPB:=Q0 hpb
 have CF:Sc (Calls Tryz.prog 66 #[.pointer (some ⟨pb,0,none⟩),.int .i64 nn] w fun e w'=>e=.returned (.int .i64 0)/\∃P',Q8 (Qa P) (Qa P') w w'/\Us P P' nn):=⟨by
  have:=O4 w P nn h hvm
  rw[hpb]at this
  exact this⟩
 clear h hvm hof hvf hm hk hfk hnn hq hpb
 go_enter Tryz.func68,Tryz.ntmps68
 go_wp2_with fail
 refine CF.o.mono ?_
 rintro e w1 ⟨rfl,P1,hl1,hf1⟩
 have HL1:=Q0 hl1
 have HF1:=Q0 hf1
 have HZ1:Sc (Ya P1 w1):=⟨hl1.1⟩
 have HPB1:Sc (P1.O.pb=pb):=⟨by rw[hf1.same.pb,HPB.o]⟩
 have HFK1:Sc (P1.O.fr[k]? =some f):=⟨by rw[hf1.fr];exact HFK.o⟩
 have HDN:Sc (∀y∈P1.O.tab,y.1≠f.n):=⟨fun y hy=>by rw[HF1.o.tab,Zi HZ.o.rising]at hy;rw[HNN.o];exact hy.2⟩
 have HTL:Sc ((P1.O.fr.take k).length=k):=⟨by rw[hf1.fr,List.length_take,HM.o];omega⟩
 have HDL:Sc ((P1.O.fr.drop (k+1)).length=m - (k+1)):=⟨by rw[hf1.fr,List.length_drop,HM.o]⟩
 have HLEN:Sc ((P1.O.fr.take k++P1.O.fr.drop (k+1)).length+1=m):=⟨by rw[List.length_append,HTL.o,HDL.o];omega⟩
 have HSUB:Sc (∀g∈P1.O.fr.take k++P1.O.fr.drop (k+1),g∈P.O.fr):=⟨fun g hg=>by have:=Og hg;rwa [hf1.fr]at this⟩
 have HCA:Sc (∀o,Calm P {P1 with O:={P1.O with U3:=o,fr:=P1.O.fr.take k++P1.O.fr.drop (k+1)}} 1):=⟨fun o=>⟨⟨hf1.same.pb,hf1.same.lb,hf1.same.most,hf1.same.L,hf1.same.pages,hf1.same.bl,hf1.same.pv,hf1.same.db⟩,hf1.calm.tab,hf1.calm.vm⟩⟩
 have HM1:Sc (P1.O.fr.length=m):=⟨by rw[hf1.fr,HM.o]⟩
 obtain⟨A1,q1,v1,hvf1,hof1,d0,d1,d2,d3,d4,lt1,fr1⟩:=hl1.1.cells
 rw[HM1.o]at hof1 d3 hvf1
 rw[HPB1.o]at d0 d1 d2 d3 d4 lt1 fr1
 obtain⟨g1,q2,he1,_,_,hq1,hqm⟩:=hof1.form (by rw[HM1.o];omega)
 injection he1 with hA1 hn1 hC1
 subst hA1
 subst hC1
 clear hn1
 rw[HM1.o]at hq1
 have HTk:Sc (∀j u,(flat Zv (P1.O.fr.take k))[j]? =some u->w1.cell? ((⟨g1,0,none⟩:Addr).add j)=some u):=⟨World.ownsRow.cells (g:=g1) ((hof1.take G7 (k:=k) (by omega)).rows HTL.o) rfl⟩
 have HTl:Sc (∀j u,(flat Zv (P1.O.fr.drop (k+1)))[j]? =some u->w1.cell? ((⟨g1,(k+1)*3,none⟩:Addr).add j)=some u):=⟨hof1.tail G7 (k+1)⟩
 have HE:Sc ((w1.alloc (.cells #[] 212)).ownsRow w1.heap.size 212 3 (.slice (some ⟨w1.heap.size,0,none⟩) 0 0) 0 []):=⟨World.ownsRow_made w1 #[] 0 (Nat.le_refl _) (by unfold maxLen;omega) rfl⟩
 have HBA:Sc (Below w1.heap.size w1 (w1.alloc (.cells #[] 212))):=⟨Q3 (Below.refl _ _) _⟩
 have n0:k<=q1:=by omega
 have n2:(k:Int)<=q1:=by omega
 have n3:(k:Int)+1<=m:=by omega
 have n4:((k:Int)+1).toNat=k+1:=by omega
 have n5:(0:Int)<=(k:Int)+1:=by omega
 have n6:(m:Int)<=q1:=by omega
 have n7:IntKind.i64.wrap ((k:Int)+1)=(k:Int)+1:=IntWalk.i64_in _ ⟨by omega,by omega⟩
 have n8:m<=q1:=by omega
 clear hl1 hf1 hof1 hvf1 c0 c1 c2 c3 c4 lt e0 hqm
 go_wp2_with (at_builtin;go_loud (refine wpList_append_own_at _ rfl (.tmp 34) (.tmp 40) 184 rfl w1.heap.size 212 i0 (.agg #[.int .i64 0,.int .i64 0,.slice none 0 0]) 3 40 Tryz.underlying184 hi0 hz0 hz1 hz2 rfl (by decide) _ 0 [] rfl HE.o ⟨g1,0,none⟩ k q1 (flat Zv (P1.O.fr.take k)) rfl ?a1 (Xo HBA.o HTk.o) (G7.Xk _) ?a3 ?a4 ?a5 ?_))
 case a1=>rw[G7.Qp,HTL.o]
 case a3=>unfold maxLen;omega
 case a4=>omega
 case a5=>exact HBA.o.size
 intro v3 w3 g1' g2' g3' g4'
 have HO3:Sc (Own Zv 3 212 w1.heap.size w3 v3 (P1.O.fr.take k)):=⟨Own.Qv g1' HTL.o rfl⟩
 have HB3:Sc (Below w1.heap.size w1 w3):=⟨HBA.o.grown g2' HBA.o.size (fun j hj=>by simp[Value.ownBlock]at hj;omega)⟩
 obtain⟨A3,n3',c3',rfl⟩:=HO3.o.slice3
 have f3:w3.cell? ⟨pb,3,none⟩=some (.slice (some ⟨g1,0,none⟩) m q1):=(HB3.o.cell lt1).trans d3
 have lt3:pb<w3.heap.size:=by have:=HB3.o.size;omega
 clear g1' g2' g3' g4' d0 d1 d2 d3 d4 fr1
 by_cases hcap:q1=k+1
 ·subst hcap
  have HTl2:Sc (∀j u,(flat Zv (P1.O.fr.drop (k+1)))[j]? =some u->w1.cell? ((⟨g1,0,none⟩:Addr).add j)=some u):=⟨fun j u hj=>by
   have hz:P1.O.fr.drop (k+1)=[]:=List.eq_nil_of_length_eq_zero (by rw[HDL.o];omega)
   rw[hz]at hj;cases hj⟩
  go_wp2_with (at_builtin;go_loud (refine wpList_append_own_at _ rfl (.tmp 43) (.tmp 50) 184 rfl w1.heap.size 212 i0 (.agg #[.int .i64 0,.int .i64 0,.slice none 0 0]) 3 40 Tryz.underlying184 hi0 hz0 hz1 hz2 rfl (by decide) _ k (flat Zv (P1.O.fr.take k)) rfl (HO3.o.rows HTL.o) ⟨g1,0,none⟩ 0 0 (flat Zv (P1.O.fr.drop (k+1))) rfl ?c1 (Xo HB3.o HTl2.o) (G7.Xk _) ?c3 ?c4 ?c5 ?_))
  case c1=>rw[G7.Qp,HDL.o];omega
  case c3=>unfold maxLen;omega
  case c4=>omega
  case c5=>exact HB3.o.size
  intro v4 w4 g1' g2' g3' g4'
  have HO4:Sc (Own Zv 3 212 w1.heap.size w4 v4 (P1.O.fr.take k++P1.O.fr.drop (k+1))):=⟨Own.Qv g1' (by rw[List.length_append,HTL.o,HDL.o];omega) (by rw[Qc])⟩
  have HB4:Sc (Below w1.heap.size w1 w4):=⟨HB3.o.grown g2' HB3.o.size (fun j hj=>(HO3.o.lt j hj).1)⟩
  have HLF:=(HZ1.o.own.Xf HB4.o HO4.o (fun x hx=> .inl (Og hx)) (fun x hx q hq he=>by have:=(Xs P1.O).lt HZ1.o.own q (.inr (.inr (.inr ⟨x,Og hx,hq⟩)));have:=(HO4.o.lt q he).1;omega))
  obtain⟨_,_,_,_,_,_,_,_,c34,_,lt4,fr4⟩:=((Qa P1).bel HZ1.o HB4.o).cells
  have HFIN:=Q0 (Part.trans HL1.o (HZ1.o.Q0j HLF rfl rfl (HZ1.o.plain.Y6l HFK1.o HDN.o)))
  rw[HPB1.o]at c34 lt4 fr4
  obtain⟨A4,n4,c4',rfl⟩:=HO4.o.slice3
  clear g1' g2' g3' g4' HLF
  go_wp2
  go_ret
  refine⟨rfl,_,?_,HCA.o (Value.slice A4 n4 c4').ownBlock,HLEN.o,HSUB.o⟩
  rw[show w4.setCell ⟨pb,3,none⟩ (.slice A4 n4 c4')=w4.setCell ⟨P1.O.pb,3,none⟩ (.slice A4 n4 c4') from by rw[HPB1.o]]
  exact HFIN.o
 ·skip
  go_wp2_with (at_builtin;go_loud (refine wpList_append_own_at _ rfl (.tmp 43) (.tmp 50) 184 rfl w1.heap.size 212 i0 (.agg #[.int .i64 0,.int .i64 0,.slice none 0 0]) 3 40 Tryz.underlying184 hi0 hz0 hz1 hz2 rfl (by decide) _ k (flat Zv (P1.O.fr.take k)) rfl (HO3.o.rows HTL.o) ⟨g1,(k+1)*3,none⟩ (m - (k+1)) (q1 - (k+1)) (flat Zv (P1.O.fr.drop (k+1))) rfl ?c1 (Xo HB3.o HTl.o) (G7.Xk _) ?c3 ?c4 ?c5 ?_))
  case c1=>rw[G7.Qp,HDL.o]
  case c3=>unfold maxLen;omega
  case c4=>omega
  case c5=>exact HB3.o.size
  intro v4 w4 g1' g2' g3' g4'
  have HO4:Sc (Own Zv 3 212 w1.heap.size w4 v4 (P1.O.fr.take k++P1.O.fr.drop (k+1))):=⟨Own.Qv g1' (by rw[List.length_append,HTL.o,HDL.o]) (by rw[Qc])⟩
  have HB4:Sc (Below w1.heap.size w1 w4):=⟨HB3.o.grown g2' HB3.o.size (fun j hj=>(HO3.o.lt j hj).1)⟩
  have HLF:=(HZ1.o.own.Xf HB4.o HO4.o (fun x hx=> .inl (Og hx)) (fun x hx q hq he=>by have:=(Xs P1.O).lt HZ1.o.own q (.inr (.inr (.inr ⟨x,Og hx,hq⟩)));have:=(HO4.o.lt q he).1;omega))
  obtain⟨_,_,_,_,_,_,_,_,c34,_,lt4,fr4⟩:=((Qa P1).bel HZ1.o HB4.o).cells
  have HFIN:=Q0 (Part.trans HL1.o (HZ1.o.Q0j HLF rfl rfl (HZ1.o.plain.Y6l HFK1.o HDN.o)))
  rw[HPB1.o]at c34 lt4 fr4
  obtain⟨A4,n4,c4',rfl⟩:=HO4.o.slice3
  clear g1' g2' g3' g4' HLF
  go_wp2
  go_ret
  refine⟨rfl,_,?_,HCA.o (Value.slice A4 n4 c4').ownBlock,HLEN.o,HSUB.o⟩
  rw[show w4.setCell ⟨pb,3,none⟩ (.slice A4 n4 c4')=w4.setCell ⟨P1.O.pb,3,none⟩ (.slice A4 n4 c4') from by rw[HPB1.o]]
  exact HFIN.o
def FrV.put(f:FrV)(lsn:Int)(A:Option Addr)(s c:Nat)(l:List (Int×Int)):FrV:=⟨f.n,lsn,A,s,c,l⟩
def X9.set(P:X9)(k:Nat)(f:FrV)(lsn:Int)(A:Option Addr)(s c:Nat)(l:List (Int×Int))(trow:Option Nat):X9:=
 {P with O:={P.O with fr:=P.O.fr.set k (f.put lsn A s c l),trow:=trow,tab:=add P.O.tab (f.n,lsn)},pv:=fun m=>if m=f.n then(lsn,l) else P.pv m}
theorem Yr.set{P:X9}(h:Yr P){k:Nat}{f:FrV}(hk:P.O.fr[k]? =some f){lsn:Int}{A:Option Addr}{s c:Nat}{l:List (Int×Int)}{trow:Option Nat}(hok:OkP lsn l)(hv:G6 l):Yr (P.set k f lsn A s c l trow):=by
 have hl:=(List.getElem?_eq_some_iff.1 hk).1
 have hmap:(P.O.fr.set k (f.put lsn A s c l)).map (·.n)=P.O.fr.map (·.n):=by
  rw[List.map_set]
  apply List.ext_getElem?
  intro i
  rw[List.getElem?_set]
  split
  ·rename_i he
   subst he
   rw[if_pos (by rw[List.length_map];exact hl),List.getElem?_map,hk]
   rfl
  ·rfl
 have hother:∀(j:Nat) g,j≠k->P.O.fr[j]? =some g->g.n≠f.n:=fun j g hj hg he=>by
  have h1:(P.O.fr.map (·.n))[j]? =some g.n:=by rw[List.getElem?_map,hg];rfl
  have h2:(P.O.fr.map (·.n))[k]? =some f.n:=by rw[List.getElem?_map,hk];rfl
  obtain⟨hj1,hj2⟩:=List.getElem?_eq_some_iff.1 h1
  obtain⟨hk1,hk2⟩:=List.getElem?_eq_some_iff.1 h2
  rcases Nat.lt_or_gt_of_ne hj with hlt|hlt
  ·exact List.pairwise_iff_getElem.1 h.one j k hj1 hk1 hlt (by rw[hj2,hk2,he])
  ·exact List.pairwise_iff_getElem.1 h.one k j hk1 hj1 hlt (by rw[hj2,hk2,he])
 exact {
  pg:=h.pg
  blk:=h.blk
  size:=h.size
  fi:=h.fi
  gbl:=h.gbl
  len:=h.len
  dn:=h.dn
  Jo:=h.Jo
  most:=h.most
  few:=by show(P.O.fr.set k _).length<=_;rw[List.length_set];exact h.few
  here:=fun g hg=>by
   obtain⟨j,hj⟩:=List.mem_iff_getElem?.1 (show g∈P.O.fr.set k (f.put lsn A s c l) from hg)
   rw[List.getElem?_set]at hj
   split at hj
   ·rename_i he
    subst he
    injection hj with hj
    subst hj
    obtain⟨h1,h2,_⟩:=h.here f (List.mem_of_getElem? hk)
    exact⟨h1,h2,by show(if f.n=f.n then(lsn,l) else P.pv f.n)=(lsn,l);rw[if_pos rfl]⟩
   ·rename_i hne
    obtain⟨h1,h2,h3⟩:=h.here g (List.mem_of_getElem? hj)
    exact⟨h1,h2,by show(if g.n=f.n then(lsn,l) else P.pv g.n)=_;rw[if_neg (hother j g (fun he=>hne he.symm) hj)];exact h3⟩
  one:=by show((P.O.fr.set k (f.put lsn A s c l)).map (·.n)).Nodup;rw[hmap];exact h.one
  ok:=fun m=>by
   show OkP (if m=f.n then(lsn,l) else P.pv m).1 (if m=f.n then(lsn,l) else P.pv m).2/\G6 (if m=f.n then(lsn,l) else P.pv m).2
   split
   ·exact⟨hok,hv⟩
   ·exact h.ok m
  clean:=fun j h1 h2 h3=>by
   have h4:has (add P.O.tab (f.n,lsn)) j=false:=h3
   have hne:¬((j:Int)=f.n):=fun he=>by rw[he]at h4;rw[Y5f]at h4;cases h4
   have h5:has P.O.tab j=false:=by
    cases hh:has P.O.tab j with
    |false=>rfl
    |true=>
     obtain⟨x,hx,hxj⟩:=Qy.1 hh
     have:has (add P.O.tab (f.n,lsn)) j=true:=Qy.2 ⟨x,by unfold add;split;exact hx;exact Q0h.2 (.inr hx),hxj⟩
     rw[h4]at this
     cases this
   show P.D.c[j]? =some (Yk (if(j:Int)=f.n then(lsn,l) else P.pv j).1 (if(j:Int)=f.n then(lsn,l) else P.pv j).2)
   rw[if_neg hne]
   exact h.clean j h1 h2 h5
  Zt:=fun y hy=>by
   have hin:∀g∈P.O.fr,∃g'∈P.O.fr.set k (f.put lsn A s c l),g'.n=g.n:=fun g hg=>by
    have:g.n∈(P.O.fr.set k (f.put lsn A s c l)).map (·.n):=by rw[hmap];exact List.mem_map_of_mem hg
    obtain⟨g',h1,h2⟩:=List.mem_map.1 this
    exact⟨g',h1,h2⟩
   rcases X7p (show y∈add P.O.tab (f.n,lsn) from hy) with rfl|hy
   ·exact hin f (List.mem_of_getElem? hk)
   ·obtain⟨g,hg,he⟩:=h.Zt y hy
    obtain⟨g',h1,h2⟩:=hin g hg
    exact⟨g',h1,h2.trans he⟩}
theorem Q8w.put{O:Dm}{w0 w:World}{g n cap k:Nat}{f:FrV}{lsn:Int}{A:Option Addr}{s c:Nat}{l:List (Int×Int)}(h:Q8w O w)(hb:Below w0.heap.size w0 w)(hlo:∀q,X2j O q->q<w0.heap.size)(hvf:O.U3=some g)(hc:w.cell? ⟨O.pb,3,none⟩=some (.slice (some ⟨g,0,none⟩) n cap))
  (hk:O.fr[k]? =some f) (hown:Own Qj 2 227 w0.heap.size w (.slice A s c) l):
  Q8 (Xs O) (Xs {O with fr:=O.fr.set k (f.put lsn A s c l)}) w0 ((w.setCell ⟨g,k*3+1,none⟩ (.int .i64 lsn)).setCell ⟨g,k*3+2,none⟩ (.slice A s c)):=by
 have hkp:Kp (fun q=>q=g) w ((w.setCell ⟨g,k*3+1,none⟩ (.int .i64 lsn)).setCell ⟨g,k*3+2,none⟩ (.slice A s c)):=(Kp.setCell w ⟨g,k*3+1,none⟩ (.int .i64 lsn)).trans (Kp.setCell _ ⟨g,k*3+2,none⟩ (.slice A s c)) (fun q hq=> .inl hq)
 obtain⟨vf,hv0,hof,ht⟩:=h.val
 have hcv:vf=.slice (some ⟨g,0,none⟩) n cap:=by
  obtain⟨⟨v,_,hh,_⟩,_,_⟩:=ht
  have h2:=hh.at
  have h3:w.cell? ⟨O.pb,3,none⟩=some vf:=by simp[World.cell?,h2,Dm.pre]
  rw[hc]at h3
  injection h3 with h3
  exact h3.symm
 subst hcv
 have hgl:g<w0.heap.size:=hlo g (.inr (.inl hvf))
 have hx1:(O.fr.set k {f with lsn:=lsn})[k]? =some {f with lsn:=lsn}:=List.getElem?_set_self (List.getElem?_eq_some_iff.1 hk).1
 have hset:=(hof.set G7 hk (x':={f with lsn:=lsn}) (j:=1) (u:=.int .i64 lsn) (by omega) rfl).set G7 hx1 (x':=f.put lsn A s c l) (j:=2) (u:=.slice A s c) (by omega) rfl
 rw[List.set_set]at hset
 have hmem:∀x∈O.fr.set k (f.put lsn A s c l),x∈O.fr\/x=f.put lsn A s c l:=fun x hx=>List.mem_or_eq_of_mem_set hx
 have hgpb:g≠O.pb:=fun he=>h.ff (by rw[hvf,he])
 refine⟨⟨⟨_,hv0,hset,ht.kp hkp (fun he=>hgpb he.symm) (fun q hq he=>h.ft q hq (by rw[he];exact hvf))⟩,fun x hx=> ?_,h.ff,h.ft,fun x hx q hq=> ?_⟩,(Kp.Qi hb _).trans hkp (fun q hq=> .inl (.inr (.inl (by rw[hq];exact hvf)))),fun q hq=> ?_⟩
 ·rcases hmem x hx with h1|rfl
  ·exact(h.Q1e x h1).kp hkp (fun q hq he=>(h.far x h1 q hq).2.1 (by rw[he];exact hvf))
  ·exact(hown.mono (Nat.zero_le _)).kp hkp (fun q hq he=>by have:=(hown.lt q hq).1;omega)
 ·rcases hmem x hx with h1|rfl
  ·exact h.far x h1 q hq
  ·have hq2:=(hown.lt q hq).1
   exact⟨fun he=>by have:=hlo O.pb (.inl rfl);have:q=O.pb:=he;omega,fun he=>by have:=hlo q (.inr (.inl he));omega,fun he=>by have:=hlo q (.inr (.inr (.inl he)));omega⟩
 ·rcases hq with hq|hq|hq|⟨x,hx,hq⟩
  ·exact .inl (.inl hq)
  ·exact .inl (.inr (.inl hq))
  ·exact .inl (.inr (.inr (.inl hq)))
  ·rcases hmem x hx with h1|rfl
   ·exact .inl (.inr (.inr (.inr ⟨x,h1,hq⟩)))
   ·exact .inr (hown.lt q hq).1
theorem Ya.Y2q{P:X9}{O':Dm}{pv':Int->Int×List (Int×Int)}{w w':World}(h:Ya P w)(hl:Q8 (Xs P.O) (Xs O') w w')(hd:O'.db=P.O.db)(hb:O'.lb=P.O.lb)(hp:Yr {P with O:=O',pv:=pv'}):Q8 (Qa P) (Qa {P with O:=O',pv:=pv'}) w w':=by
 obtain⟨k1,k2⟩:=Part.Um (C:=P.dl) hl ⟨h.dl.V8,h.dl.log⟩ (Part.apart.symm h.apart)
 refine⟨⟨⟨k1.1,?_,h.dl.db,?_⟩,hl.1,?_,hd.trans h.db,hp⟩,hl.2.1.mono (fun q hq=> .inr hq),fun q hq=>hq.elim (fun hq=> ?_) (fun hq=>(hl.2.2 q hq).imp .inr id)⟩
 ·show Jb P.G w' O'.lb P.Js P.L 0
  rw[hb];exact k1.2
 ·show(Qo P.D).apart (Xv P.G O'.lb P.Js P.L 0)
  rw[hb];exact h.dl.apart
 ·show(Part.both (Qo P.D) (Xv P.G O'.lb P.Js P.L 0)).apart (Xs O')
  rw[hb];exact Part.apart.symm k2
 ·have hq':(Part.both (Qo P.D) (Xv P.G O'.lb P.Js P.L 0)).U q:=hq
  rw[hb]at hq'
  exact .inl (.inl hq')
set_option maxRecDepth 4000 in
set_option maxHeartbeats 8000000 in
theorem X2l(w0 w:World)(P:X9)(n:Nat)(f:FrV)(lsn:Int)(A:Option Addr)(s c:Nat)(l:List (Int×Int))(h0:Ya P w0)(hb0:Below w0.heap.size w0 w)(hf:f∈P.O.fr)(hfn:f.n=n)(hown:Own Qj 2 227 w0.heap.size w (.slice A s c) l)(hok:OkP lsn l)(hv:G6 l):
  Calls Tryz.prog 160 #[.pointer (some ⟨P.O.pb,0,none⟩),.int .i64 n,Zn lsn (.slice A s c)] w fun e w'=>e=.returned (.int .i64 0)/\∃P',Q8 (Qa P) (Qa P') w0 w'/\∃k trow,P'=P.set k f lsn A s c l trow:=by
 have HZ0:=Q0 h0
 have HB0:=Q0 hb0
 have h:=(Qa P).bel h0 hb0
 have HOWN:=Q0 hown
 have HOK:=Q0 hok
 have HV:=Q0 hv
 have HBX:Sc (Below w.heap.size w (w.alloc (.cells #[.int .i64 lsn,.slice A s c] 197))):=⟨Q3 (Below.refl _ _) _⟩
 have HCX:=Q0 (heap_alloc_new w (.cells #[.int .i64 lsn,.slice A s c] 197))
 obtain⟨w1,hw1⟩:∃w1,w.alloc (.cells #[.int .i64 lsn,.slice A s c] 197)=w1:=⟨_,rfl⟩
 rw[hw1]at HBX HCX
 obtain⟨bx,hbx⟩:∃bx,w.heap.size=bx:=⟨_,rfl⟩
 rw[hbx]at HCX
 have HBXL:Sc (w.heap.size=bx):=⟨hbx⟩
 have HZ:Sc (Ya P w1):=⟨(Qa P).bel h HBX.o⟩
 have HO1:Sc (Own Qj 2 227 w0.heap.size w1 (.slice A s c) l):=⟨hown.below HBX.o⟩
 have HB1:Sc (Below w0.heap.size w0 w1):=⟨hb0.trans (HBX.o.mono hb0.size)⟩
 obtain⟨p0,p1⟩:=Qf HCX.o
 have lx:=Q6 HCX.o
 obtain⟨pb,hpb⟩:∃pb,P.O.pb=pb:=⟨_,rfl⟩
 have HPB:=Q0 hpb
 have CP:Sc (Calls Tryz.prog 110 #[.pointer (some ⟨pb,0,none⟩),.int .i64 n] w1 fun e w'=>∃r:Int,e=.returned (.int .i64 r)/\Co P.O.fr n r/\w1=w'):=⟨by have:=Un w1 P n HZ.o;rw[hpb]at this;exact this⟩
 have HFM:Sc (f∈P.O.fr/\f.n=n):=⟨hf,hfn⟩
 rw[hpb]
 clear h h0 hb0 hown hok hv hpb hf hfn
 go_enter Tryz.func160,Tryz.ntmps160
 go_wp2_with fail
 try rw[hw1]
 try rw[hbx]
 clear hw1 hbx
 refine CP.o.mono ?_
 rintro e w' ⟨r,rfl,hr,rfl⟩
 rcases hr with ⟨_,hno⟩|⟨k,g,rfl,hk,hgn⟩
 ·exact absurd HFM.o.2 (hno f HFM.o.1)
 have HK:Sc (P.O.fr[k]? =some f):=⟨by
  obtain⟨j,hj⟩:=List.mem_iff_getElem?.1 HFM.o.1
  have h1:(P.O.fr.map (·.n))[j]? =some f.n:=by rw[List.getElem?_map,hj];rfl
  have h2:(P.O.fr.map (·.n))[k]? =some g.n:=by rw[List.getElem?_map,hk];rfl
  obtain⟨hj1,hj2⟩:=List.getElem?_eq_some_iff.1 h1
  obtain⟨hk1,hk2⟩:=List.getElem?_eq_some_iff.1 h2
  have hnd:=HZ.o.plain.one
  rcases Nat.lt_trichotomy j k with hlt|he|hlt
  ·exact absurd (by rw[hj2,hk2,hgn,HFM.o.2]) (List.pairwise_iff_getElem.1 hnd j k hj1 hk1 hlt)
  ·rw[<-he];exact hj
  ·exact absurd (by rw[hj2,hk2,hgn,HFM.o.2]) (List.pairwise_iff_getElem.1 hnd k j hk1 hj1 hlt)⟩
 obtain⟨A1,q1,v1,hvf,hof,c0,c1,c2,c3,c4,lt,_⟩:=HZ.o.cells
 obtain⟨m,hm⟩:∃m,P.O.fr.length=m:=⟨_,rfl⟩
 have hm8:m<=8:=by have:=HZ.o.plain.few;have:=HZ.o.plain.most;omega
 have hkm:k<m:=by rw[<-hm];exact(List.getElem?_eq_some_iff.1 hk).1
 rw[hm]at hof c3 hvf
 rw[HPB.o]at c0 c1 c2 c3 c4 lt
 obtain⟨g1,q2,he,_,_,_,_⟩:=hof.form (by omega)
 injection he with hA hn2 hC
 subst hA
 subst hC
 clear hn2
 obtain⟨e0,e1,e2⟩:=hof.C6 HK.o
 have f1:=hof.Qr (k*3+1)
 have f2:=hof.Qr (k*3+2)
 have lg:=World.block_lt_of_cell? _ _ e1
 have hk1:(k:Int)<m:=by omega
 have hk2:¬((k:Int)<0):=by omega
 have hk0:(0:Int)<=k:=by omega
 have HVF:Sc (P.O.U3=some g1):=⟨by rw[<-hvf];rfl⟩
 have HC3:Sc (w1.cell? ⟨P.O.pb,3,none⟩=some (.slice (some ⟨g1,0,none⟩) m q1)):=⟨by rw[HPB.o];exact c3⟩
 clear hk hgn hm hof hvf
 go_wp2_with fail
 refine(Q2l w1 lsn _ l HO1.o.rdE (by have:=HOK.o.2.2.1;omega)).mono ?_
 rintro e w2 ⟨he,hb2⟩
 have he2:e=.returned (.bool true):=he.elim (fun h=>h.2) (fun h=>absurd HOK.o h.1)
 subst he2
 have HB2:Sc (Below w0.heap.size w0 w2):=⟨HB1.o.trans (hb2.mono HB1.o.size)⟩
 have HZ2:Sc (Ya P w2):=⟨(Qa P).bel HZ.o hb2⟩
 have HO2:Sc (Own Qj 2 227 w0.heap.size w2 (.slice A s c) l):=⟨HO1.o.below hb2⟩
 have HC2:Sc (w2.cell? ⟨P.O.pb,3,none⟩=some (.slice (some ⟨g1,0,none⟩) m q1)):=⟨(hb2.cell (by have:=HC3.o;exact World.block_lt_of_cell? _ _ this)).trans HC3.o⟩
 have d3:w2.cell? ⟨pb,3,none⟩=some (.slice (some ⟨g1,0,none⟩) m q1):=by rw[<-HPB.o];exact HC2.o
 have d1:=(hb2.cell (World.block_lt_of_cell? _ _ e1)).trans e1
 have d2:=(hb2.cell (World.block_lt_of_cell? _ _ e2)).trans e2
 have q0:=(hb2.cell (World.block_lt_of_cell? _ _ p0)).trans p0
 have q1':=(hb2.cell (World.block_lt_of_cell? _ _ p1)).trans p1
 have hs2:=hb2.size
 have lt2:pb<w2.heap.size:=by omega
 have lg2:g1<w2.heap.size:=by omega
 have lx2:bx<w2.heap.size:=by omega
 have HLO:Sc (∀q,X2j P.O q->q<w0.heap.size):=⟨fun q hq=>(Qa P).lt HZ0.o q (.inr hq)⟩
 have HXF:Sc (w0.heap.size<=bx/\∀q,(Value.slice A s c).ownBlock=some q->q<bx):=⟨by have h1:=HB0.o.size;have h2:=HBXL.o;omega,fun q hq=>by have:=(HOWN.o.lt q hq).2;have:=HBXL.o;omega⟩
 have hgx:¬g1=bx:=fun he=>by have h1:=HLO.o g1 (.inr (.inl HVF.o));have h2:=HXF.o.1;omega
 have hxg:¬bx=g1:=fun he=>hgx he.symm
 have hgp:¬g1=pb:=fun he=>HZ2.o.own.ff (by rw[HVF.o,he,HPB.o])
 have hpg:¬pb=g1:=fun he=>hgp he.symm
 have y1:w2.frozen? ⟨g1,k*3+1,none⟩=false:=by
  obtain⟨A',c',v',_,hof,_,_,_,c3',_⟩:=HZ2.o.cells
  rw[HC2.o]at c3'
  injection c3' with c3'
  rw[<-c3']at hof
  exact hof.Qr (k*3+1)
 have y2:w2.frozen? ⟨g1,k*3+2,none⟩=false:=by
  obtain⟨A',c',v',_,hof,_,_,_,c3',_⟩:=HZ2.o.cells
  rw[HC2.o]at c3'
  injection c3' with c3'
  rw[<-c3']at hof
  exact hof.Qr (k*3+2)
 clear he hb2 c0 c1 c2 c3 c4 lt e0 e1 e2 f1 f2 lg p0 p1 lx
 go_wp2_with fail
 go_region
 all_goals
  obtain⟨w3,hw3⟩:∃w3,((w2.setCell ⟨g1,k*3+1,none⟩ (.int .i64 lsn)).setCell ⟨g1,k*3+2,none⟩ (.slice A s c)).drew=w3:=⟨_,rfl⟩
  have HKP:Sc (Kp (fun q=>q=g1) w2 w3):=⟨by rw[<-hw3];exact((Kp.setCell w2 ⟨g1,k*3+1,none⟩ (.int .i64 lsn)).trans (Kp.setCell _ ⟨g1,k*3+2,none⟩ (.slice A s c)) (fun q hq=> .inl hq)).drew⟩
  have HL3:Sc (Q8 (Xs P.O) (Xs {P.O with fr:=P.O.fr.set k (f.put lsn A s c l)}) w0 w3):=⟨by
   rw[<-hw3]
   exact Part.Qs (HZ2.o.own.put HB2.o HLO.o HVF.o HC2.o HK.o HO2.o) (Below.drew (Below.refl _ _))⟩
  rw[hw3]
  have r0:w3.cell? ⟨bx,0,none⟩=some (.int .i64 lsn):=Gh HKP.o q0 hxg
  have lx3:=World.block_lt_of_cell? _ _ r0
  obtain⟨O3,hO3⟩:∃O3:Dm,{P.O with fr:=P.O.fr.set k (f.put lsn A s c l)}=O3:=⟨_,rfl⟩
  have HO3:=Q0 hO3
  rw[hO3]at HL3
  have HPB3:Sc (O3.pb=pb):=⟨by rw[<-hO3];exact HPB.o⟩
  have HTB3:Sc (O3.tab=P.O.tab/\O3.db=P.O.db/\O3.lb=P.O.lb):=⟨by rw[<-hO3];exact⟨rfl,rfl,rfl⟩⟩
  have lp3:pb<w3.heap.size:=by have:=(Xs O3).lt HL3.o.1 O3.pb (.inl rfl);rw[HPB3.o]at this;exact this
  have HXU:Sc (¬X2j O3 bx):=⟨fun hu=>by
   rcases HL3.o.2.2 bx hu with h1|h1
   ·have:=HLO.o bx h1;have:=HXF.o.1;omega
   ·rw[<-HO3.o]at hu
    rcases hu with hu|hu|hu|⟨x,hx,hu⟩
    ·have h2:=HLO.o bx (.inl hu);have:=HXF.o.1;omega
    ·have h2:=HLO.o bx (.inr (.inl hu));have:=HXF.o.1;omega
    ·have h2:=HLO.o bx (.inr (.inr (.inl hu)));have:=HXF.o.1;omega
    ·rcases List.mem_or_eq_of_mem_set hx with h3|rfl
     ·have h2:=HLO.o bx (.inr (.inr (.inr ⟨x,h3,hu⟩)));have:=HXF.o.1;omega
     ·have:=HXF.o.2 bx hu;omega⟩
  have CA:Sc (∀X,Below w3.heap.size w3 X->Calls Tryz.prog 80 #[.pointer (some ⟨pb,4,none⟩),.int .i64 n,.int .i64 lsn] X fun e w'=>e=.returned (.tuple #[])/\(∃trow',Q8 (Xs O3) (Xs {O3 with trow:=trow',tab:=add O3.tab (n,lsn)}) w3 w')/\w'.cell? ⟨bx,0,none⟩=some (.int .i64 lsn)):=⟨fun X hX=>by
   have hx:=(Xs O3).bel HL3.o.1 hX
   obtain⟨vf,hvf,hof,ht⟩:=hx.val
   have h1:=X4b X O3.pb O3.trow O3.tab n lsn ht (by rw[HTB3.o.1];have:=HZ0.o.plain.X0p HZ0.o.rising;omega)
   rw[show O3.pb=pb from HPB3.o]at h1
   refine h1.mono ?_
   rintro e w' ⟨he,hl⟩
   rw[show pb=O3.pb from HPB3.o.symm]at hl
   obtain⟨trow',hl'⟩:=hx.X0o hvf hof hl
   exact⟨he,⟨trow',Part.from_ hl' hX⟩,Gh hl'.2.1 ((hX.cell (World.block_lt_of_cell? _ _ r0)).trans r0) HXU.o⟩⟩
  have HSW:Sc (∀W,Below w3.heap.size w3 W->W.cell? ⟨bx,0,none⟩=some (.int .i64 lsn)):=⟨fun W hW=>(hW.cell (World.block_lt_of_cell? _ _ r0)).trans r0⟩
  have HQ:Sc (Below w3.heap.size w3 w3):=⟨Below.refl _ _⟩
  clear hw3 q0 q1' d1 d2 d3 y1 y2 hO3 hgx hxg hgp hpg lt2 lg2 lx2 hs2
  go_wp2_with fail
  go_region_held3 (fun W=>W.cell? ⟨bx,0,none⟩=some (.int .i64 lsn))
   (first|with_reducible exact HSW.o _ HQ.o|with_reducible exact HSW.o _ (Below.drew HQ.o)|with_reducible exact HS3.o)
   (first
    |(go_at_call 80;go_loud (refine(CA.o _ (by first|with_reducible exact HQ.o|with_reducible exact Below.drew HQ.o)).mono ?_;rintro e w4 ⟨rfl,hl4,hs4⟩;have HS3:=Q0 hs4;have HL4:=Q0 hl4;clear hl4 hs4)))
  obtain⟨trow4,hl4⟩:=HL4.o
  have HFIN:Sc (Q8 (Qa P) (Qa (P.set k f lsn A s c l trow4)) w0 w4):=⟨by
   have h1:=Part.trans HL3.o hl4
   rw[<-HO3.o]at h1
   have hp:=HZ0.o.plain.set (trow:=trow4) HK.o HOK.o HV.o (A:=A) (s:=s) (c:=c)
   have h2:=HZ0.o.Y2q (pv':=fun m=>if m=f.n then(lsn,l) else P.pv m) h1 rfl rfl (by rw[<-HFM.o.2];exact hp)
   unfold X9.set
   rw[HFM.o.2]at h2 ⊢
   exact h2⟩
  clear hl4
  go_wp2
  go_ret
  exact⟨rfl,_,HFIN.o,k,trow4,rfl⟩
end Go.Proofs.YtoapihepdallbaaGreatDoor
