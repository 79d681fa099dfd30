import Derived.Test.YtoapihepdallbaaGreatDoorP29
namespace Go.Proofs.YtoapihepdallbaaGreatDoor
open Go.RowKit
section
variable{R:Fld}{o:Nat}
set_option maxRecDepth 4000 in
set_option maxHeartbeats 2000000 in
theorem X4c(w:World)(tb:Nat)(row:Option Nat)(l:List TX)(m:Int)(h:Zs R o w tb row l m)(hlen:l.length<=1000000)(hm0:0<=m)(hm:m<60000):
  Calls Tryz.prog 96 #[.pointer (some ⟨tb,o,none⟩)] w fun e w'=>e=.returned (.tuple #[.int .i64 (m+1),.bool true])/\Y4 R o tb row (Qt l (m+1,0,0,0)) (m+1) w w':=by
 have HT:=Q0 h
 obtain⟨⟨v,hv,hc,hown⟩,hap,hr⟩:=h
 obtain⟨c0,c1⟩:=hc.Xb
 have lt:=hc.lt
 have d:decide ((60000:Int)<=m)=false:=decide_eq_false (by omega)
 have hw:IntKind.i64.wrap (m+1)=m+1:=IntWalk.i64_in _ ⟨by omega,by omega⟩
 have HM:Sc (max m (m+1)=m+1):=⟨by omega⟩
 clear hv hc hown hap hr
 go_enter Tryz.func96,Tryz.ntmps96
 go_wp2_with fail
 refine(Q8o w tb row l m (m+1,0,0,0) HT.o hlen).mono ?_
 rintro e w1 ⟨rfl,hl⟩
 have HL:Sc (Y4 R o tb row (Qt l (m+1,0,0,0)) (m+1) w w1):=⟨by have:=hl;rw[show max m ((m+1,0,0,0):TX).1=m+1 from HM.o]at this;exact this⟩
 obtain⟨row1,ht1,_,_⟩:=HL.o
 obtain⟨⟨v1,hv1,hc1,hown1⟩,hap1,hr1⟩:=ht1
 obtain⟨e0,e1⟩:=hc1.Xb
 have lt1:=hc1.lt
 clear hl hv1 hc1 hown1 hap1 hr1 c0 c1 lt
 go_wp2
 go_ret2
 exact⟨rfl,HL.o⟩
end
structure X0v where
 A:Option Addr
 s:Nat
 c:Nat
 l:List Int
abbrev X0v.v(x:X0v):Value:=.slice x.A x.s x.c
structure Xm where
 sb:Nat
 pb:Nat
 db:Nat
 lb:Nat
 spb:Nat
 pages:Nat
 bl:Nat
 Xf:Nat
 Qu:Nat
 kr:Option Nat
 wr:Option Nat
 tr:Option Nat
 lk:List (Int×Int×Int)
 wt:List (Int×Int)
 tx:List TX
 most:Int
 X1:List Int
 sav:List X0v
 ck:Int
def Xm.head(T:Xm):List Value:=[.int .i64 T.pages,.int .i64 T.bl,.int .i64 T.Xf,.int .i64 T.Qu,.pointer (some ⟨T.db,0,none⟩),.pointer (some ⟨T.lb,0,none⟩),.pointer (some ⟨T.pb,0,none⟩)]
def Xm.tail(T:Xm):List Value:=.pointer (some ⟨T.spb,0,none⟩)::(T.X1.map (Value.int .i64 ·)++(T.sav.map (·.v)++[.int .i64 1,.int .i64 0,.int .i64 1,.int .i64 T.ck,.int .i64 T.pages,.int .i64 T.bl,.int .i64 T.Xf]))
def Xm.cells(T:Xm)(vk vw vt:Value):Array Value:=(T.head++([vk,vw,vt,.int .i64 T.most]++T.tail)).toArray
def Xm.fK(T:Xm)(vw vt:Value):Fld:=⟨T.head.toArray,([vw,vt,.int .i64 T.most]++T.tail).toArray,93⟩
def Xm.fW(T:Xm)(vk vt:Value):Fld:=⟨(T.head++[vk]).toArray,([vt,.int .i64 T.most]++T.tail).toArray,93⟩
def Xm.fT(T:Xm)(vk vw:Value):Fld:=⟨(T.head++[vk,vw]).toArray,T.tail.toArray,93⟩
structure Vr(T:Xm)(w:World):Prop where
 val:∃vk vw vt,vk.ownBlock=T.kr/\vw.ownBlock=T.wr/\vt.ownBlock=T.tr/\w.heap[T.sb]? =some (.cells (T.cells vk vw vt) 93 (0,0))/\
  Own Ul 3 245 0 w vk T.lk/\Own Qj 2 188 0 w vw T.wt/\Own Qg 4 58 0 w vt T.tx
 Je:Qd T.tx
 sv:∀x∈T.sav,Own X6 1 3 0 w x.v x.l
 nm:T.X1.length=8
 ns:T.sav.length=8
 kb:T.kr≠some T.sb
 wb:T.wr≠some T.sb
 tb:T.tr≠some T.sb
 kw:∀q,T.kr=some q->T.wr≠some q
 kt:∀q,T.kr=some q->T.tr≠some q
 wtt:∀q,T.wr=some q->T.tr≠some q
 far:∀x∈T.sav,∀q,x.v.ownBlock=some q->q≠T.sb/\T.kr≠some q/\T.wr≠some q/\T.tr≠some q
def Y5x(T:Xm)(q:Nat):Prop:=q=T.sb\/T.kr=some q\/T.wr=some q\/T.tr=some q\/∃x∈T.sav,x.v.ownBlock=some q
def Y6(T:Xm):Part where
 P:=Vr T
 U:=Y5x T
 kp:=fun {S w w'} h hk hn=>by
  obtain⟨vk,vw,vt,e1,e2,e3,hc,o1,o2,o3⟩:=h.val
  exact⟨⟨vk,vw,vt,e1,e2,e3,hk.at hc (hn _ (.inl rfl)),o1.kp hk (fun q hq=>hn q (.inr (.inl (by rw[<-e1];exact hq)))),o2.kp hk (fun q hq=>hn q (.inr (.inr (.inl (by rw[<-e2];exact hq))))),o3.kp hk (fun q hq=>hn q (.inr (.inr (.inr (.inl (by rw[<-e3];exact hq))))))⟩,h.Je,fun x hx=>(h.sv x hx).kp hk (fun q hq=>hn q (.inr (.inr (.inr (.inr ⟨x,hx,hq⟩))))),h.nm,h.ns,h.kb,h.wb,h.tb,h.kw,h.kt,h.wtt,h.far⟩
 lt:=fun {w} h q hq=>by
  obtain⟨vk,vw,vt,e1,e2,e3,hc,o1,o2,o3⟩:=h.val
  rcases hq with rfl|hq|hq|hq|⟨x,hx,hq⟩
  ·exact Q6 hc
  ·exact(o1.lt q (by rw[e1];exact hq)).2
  ·exact(o2.lt q (by rw[e2];exact hq)).2
  ·exact(o3.lt q (by rw[e3];exact hq)).2
  ·exact((h.sv x hx).lt q hq).2
theorem X1m(T:Xm)(vk vw vt:Value):(T.fK vw vt).pre++ #[vk]++(T.fK vw vt).post=T.cells vk vw vt:=by unfold Xm.fK Xm.cells;simp
theorem X1o(T:Xm)(vk vw vt:Value):(T.fW vk vt).pre++ #[vw]++(T.fW vk vt).post=T.cells vk vw vt:=by unfold Xm.fW Xm.cells;simp
theorem X1n(T:Xm)(vk vw vt:Value):(T.fT vk vw).pre++ #[vt,.int .i64 T.most]++(T.fT vk vw).post=T.cells vk vw vt:=by unfold Xm.fT Xm.cells;simp
theorem Vr.atK{T:Xm}{w:World}(h:Vr T w):∃va vb,Q0x Ul 3 245 (T.fK va vb) w T.sb 7 T.kr T.lk/\
  ∀l' w',Xj Ul 3 245 (T.fK va vb) T.sb 7 T.kr l' w w'->∃r',Q8 (Y6 T) (Y6 {T with kr:=r',lk:=l'}) w w':=by
 obtain⟨vk,vw,vt,e1,e2,e3,hc,o1,o2,o3⟩:=h.val
 have hlt:=(Y6 T).lt h
 have hap:T.kr≠some T.sb:=h.kb
 refine⟨vw,vt,⟨⟨vk,e1,⟨by simp[Xm.fK,Xm.head],by rw[X1m];exact hc⟩,o1⟩,hap⟩,fun l' w' hl=> ?_⟩
 obtain⟨r',⟨⟨v',hv',hf',ho'⟩,hap'⟩,hk,hat⟩:=hl
 have hc':=hf'.2
 rw[X1m]at hc'
 have hnew:∀q,r'=some q->T.kr=some q\/w.heap.size<=q:=hat
 have hS:∀q,(T.wr=some q\/T.tr=some q\/∃x∈T.sav,x.v.ownBlock=some q)->¬(q=T.sb\/some q=T.kr):=fun q hq he=>by
  rcases hq with hq|hq|⟨x,hx,hq⟩
  ·rcases he with rfl|he
   ·exact h.wb hq
   ·exact h.kw q he.symm hq
  ·rcases he with rfl|he
   ·exact h.tb hq
   ·exact h.kt q he.symm hq
  ·obtain⟨a1,a2,a3,a4⟩:=h.far x hx q hq
   rcases he with rfl|he
   ·exact a1 rfl
   ·exact a2 he.symm
 have hN:∀q,r'=some q->(T.wr=some q\/T.tr=some q\/∃x∈T.sav,x.v.ownBlock=some q)->False:=fun q hq hu=>by
  rcases hnew q hq with h1|h1
  ·exact hS q hu (.inr h1.symm)
  ·have:=hlt q (by rcases hu with hu|hu|hu;exact .inr (.inr (.inl hu));exact .inr (.inr (.inr (.inl hu)));exact .inr (.inr (.inr (.inr hu))))
   omega
 refine⟨r',⟨⟨⟨v',vw,vt,hv',e2,e3,hc',ho',o2.kp hk (fun q hq=>hS q (.inl (by rw[<-e2];exact hq))),o3.kp hk (fun q hq=>hS q (.inr (.inl (by rw[<-e3];exact hq))))⟩,h.Je,fun x hx=>(h.sv x hx).kp hk (fun q hq=>hS q (.inr (.inr ⟨x,hx,hq⟩))),h.nm,h.ns,hap',h.wb,h.tb,fun q hq hu=>hN q hq (.inl hu),fun q hq hu=>hN q hq (.inr (.inl hu)),h.wtt,fun x hx q hq=>⟨(h.far x hx q hq).1,fun hu=>hN q hu (.inr (.inr ⟨x,hx,hq⟩)),(h.far x hx q hq).2.2.1,(h.far x hx q hq).2.2.2⟩⟩,hk.mono (fun q hq=>hq.elim .inl (fun hq=> .inr (.inl hq.symm))),fun q hq=> ?_⟩⟩
 rcases hq with hq|hq|hq|hq|hq
 ·exact .inl (.inl hq)
 ·exact(hnew q hq).imp (fun h=> .inr (.inl h)) id
 ·exact .inl (.inr (.inr (.inl hq)))
 ·exact .inl (.inr (.inr (.inr (.inl hq))))
 ·exact .inl (.inr (.inr (.inr (.inr hq))))
theorem Vr.atW{T:Xm}{w:World}(h:Vr T w):∃va vb,Q0x Qj 2 188 (T.fW va vb) w T.sb 8 T.wr T.wt/\
  ∀l' w',Xj Qj 2 188 (T.fW va vb) T.sb 8 T.wr l' w w'->∃r',Q8 (Y6 T) (Y6 {T with wr:=r',wt:=l'}) w w':=by
 obtain⟨vk,vw,vt,e1,e2,e3,hc,o1,o2,o3⟩:=h.val
 have hlt:=(Y6 T).lt h
 have hap:T.wr≠some T.sb:=h.wb
 refine⟨vk,vt,⟨⟨vw,e2,⟨by simp[Xm.fW,Xm.head],by rw[X1o];exact hc⟩,o2⟩,hap⟩,fun l' w' hl=> ?_⟩
 obtain⟨r',⟨⟨v',hv',hf',ho'⟩,hap'⟩,hk,hat⟩:=hl
 have hc':=hf'.2
 rw[X1o]at hc'
 have hnew:∀q,r'=some q->T.wr=some q\/w.heap.size<=q:=hat
 have hS:∀q,(T.kr=some q\/T.tr=some q\/∃x∈T.sav,x.v.ownBlock=some q)->¬(q=T.sb\/some q=T.wr):=fun q hq he=>by
  rcases hq with hq|hq|⟨x,hx,hq⟩
  ·rcases he with rfl|he
   ·exact h.kb hq
   ·exact h.kw q hq he.symm
  ·rcases he with rfl|he
   ·exact h.tb hq
   ·exact h.wtt q he.symm hq
  ·obtain⟨a1,a2,a3,a4⟩:=h.far x hx q hq
   rcases he with rfl|he
   ·exact a1 rfl
   ·exact a3 he.symm
 have hN:∀q,r'=some q->(T.kr=some q\/T.tr=some q\/∃x∈T.sav,x.v.ownBlock=some q)->False:=fun q hq hu=>by
  rcases hnew q hq with h1|h1
  ·exact hS q hu (.inr h1.symm)
  ·have:=hlt q (by rcases hu with hu|hu|hu;exact .inr (.inl hu);exact .inr (.inr (.inr (.inl hu)));exact .inr (.inr (.inr (.inr hu))))
   omega
 refine⟨r',⟨⟨⟨vk,v',vt,e1,hv',e3,hc',o1.kp hk (fun q hq=>hS q (.inl (by rw[<-e1];exact hq))),ho',o3.kp hk (fun q hq=>hS q (.inr (.inl (by rw[<-e3];exact hq))))⟩,h.Je,fun x hx=>(h.sv x hx).kp hk (fun q hq=>hS q (.inr (.inr ⟨x,hx,hq⟩))),h.nm,h.ns,h.kb,hap',h.tb,fun q hq hu=>hN q hu (.inl hq),h.kt,fun q hq hu=>hN q hq (.inr (.inl hu)),fun x hx q hq=>⟨(h.far x hx q hq).1,(h.far x hx q hq).2.1,fun hu=>hN q hu (.inr (.inr ⟨x,hx,hq⟩)),(h.far x hx q hq).2.2.2⟩⟩,hk.mono (fun q hq=>hq.elim .inl (fun hq=> .inr (.inr (.inl hq.symm)))),fun q hq=> ?_⟩⟩
 rcases hq with hq|hq|hq|hq|hq
 ·exact .inl (.inl hq)
 ·exact .inl (.inr (.inl hq))
 ·exact(hnew q hq).imp (fun h=> .inr (.inr (.inl h))) id
 ·exact .inl (.inr (.inr (.inr (.inl hq))))
 ·exact .inl (.inr (.inr (.inr (.inr hq))))
theorem Vr.atT{T:Xm}{w:World}(h:Vr T w):∃va vb,Zs (T.fT va vb) 9 w T.sb T.tr T.tx T.most/\
  ∀l' m' w',Y4 (T.fT va vb) 9 T.sb T.tr l' m' w w'->∃r',Q8 (Y6 T) (Y6 {T with tr:=r',tx:=l',most:=m'}) w w':=by
 obtain⟨vk,vw,vt,e1,e2,e3,hc,o1,o2,o3⟩:=h.val
 have hlt:=(Y6 T).lt h
 refine⟨vk,vw,⟨⟨vt,e3,⟨by simp[Xm.fT,Xm.head],by rw[X1n];exact hc⟩,o3⟩,h.tb,h.Je⟩,fun l' m' w' hl=> ?_⟩
 obtain⟨r',⟨⟨v',hv',hf',ho'⟩,hap',hri'⟩,hk,hat⟩:=hl
 have hc':w'.heap[T.sb]? =some (.cells (({T with tr:=r',tx:=l',most:=m'}:Xm).cells vk vw v') 93 (0,0)):=by
  rw[<-X1n]
  exact hf'.2
 have hnew:∀q,r'=some q->T.tr=some q\/w.heap.size<=q:=fun q hq=>by
  rcases hat with h1|h1
  ·exact .inl (by rw[<-h1];exact hq)
  ·exact .inr (h1 q hq)
 have hS:∀q,(T.kr=some q\/T.wr=some q\/∃x∈T.sav,x.v.ownBlock=some q)->¬(q=T.sb\/some q=T.tr):=fun q hq he=>by
  rcases hq with hq|hq|⟨x,hx,hq⟩
  ·rcases he with rfl|he
   ·exact h.kb hq
   ·exact h.kt q hq he.symm
  ·rcases he with rfl|he
   ·exact h.wb hq
   ·exact h.wtt q hq he.symm
  ·obtain⟨a1,a2,a3,a4⟩:=h.far x hx q hq
   rcases he with rfl|he
   ·exact a1 rfl
   ·exact a4 he.symm
 have hN:∀q,r'=some q->(T.kr=some q\/T.wr=some q\/∃x∈T.sav,x.v.ownBlock=some q)->False:=fun q hq hu=>by
  rcases hnew q hq with h1|h1
  ·exact hS q hu (.inr h1.symm)
  ·have:=hlt q (by rcases hu with hu|hu|hu;exact .inr (.inl hu);exact .inr (.inr (.inl hu));exact .inr (.inr (.inr (.inr hu))))
   omega
 refine⟨r',⟨⟨⟨vk,vw,v',e1,e2,hv',hc',o1.kp hk (fun q hq=>hS q (.inl (by rw[<-e1];exact hq))),o2.kp hk (fun q hq=>hS q (.inr (.inl (by rw[<-e2];exact hq)))),ho'⟩,hri',fun x hx=>(h.sv x hx).kp hk (fun q hq=>hS q (.inr (.inr ⟨x,hx,hq⟩))),h.nm,h.ns,h.kb,h.wb,hap',h.kw,fun q hq hu=>hN q hu (.inl hq),fun q hq hu=>hN q hu (.inr (.inl hq)),fun x hx q hq=>⟨(h.far x hx q hq).1,(h.far x hx q hq).2.1,(h.far x hx q hq).2.2.1,fun hu=>hN q hu (.inr (.inr ⟨x,hx,hq⟩))⟩⟩,hk.mono (fun q hq=>hq.elim .inl (fun hq=> .inr (.inr (.inr (.inl hq.symm))))),fun q hq=> ?_⟩⟩
 rcases hq with hq|hq|hq|hq|hq
 ·exact .inl (.inl hq)
 ·exact .inl (.inr (.inl hq))
 ·exact .inl (.inr (.inr (.inl hq)))
 ·exact(hnew q hq).imp (fun h=> .inr (.inr (.inr (.inl h)))) id
 ·exact .inl (.inr (.inr (.inr (.inr hq))))
theorem Vr.X5z{T T':Xm}{w w':World}(h:Vr T w)(hsb:T'.sb=T.sb)(hr:T'.kr=T.kr/\T'.wr=T.wr/\T'.tr=T.tr/\T'.lk=T.lk/\T'.wt=T.wt/\T'.tx=T.tx)(hk:Kp (fun q=>q=T.sb) w w')(hc:∀vk vw vt,w.heap[T.sb]? =some (.cells (T.cells vk vw vt) 93 (0,0))->w'.heap[T.sb]? =some (.cells (T'.cells vk vw vt) 93 (0,0)))
  (hnm:T'.X1.length=8) (hns:T'.sav.length=8) (hsv:∀x∈T'.sav,Own X6 1 3 0 w' x.v x.l/\∀q,x.v.ownBlock=some q->q≠T.sb/\T.kr≠some q/\T.wr≠some q/\T.tr≠some q):Vr T' w':=by
 obtain⟨vk,vw,vt,e1,e2,e3,hc0,o1,o2,o3⟩:=h.val
 obtain⟨r1,r2,r3,r4,r5,r6⟩:=hr
 refine⟨⟨vk,vw,vt,by rw[r1];exact e1,by rw[r2];exact e2,by rw[r3];exact e3,by rw[hsb];exact hc vk vw vt hc0,?_,?_,?_⟩,by rw[r6];exact h.Je,fun x hx=>(hsv x hx).1,hnm,hns,by rw[r1,hsb];exact h.kb,by rw[r2,hsb];exact h.wb,by rw[r3,hsb];exact h.tb,by rw[r1,r2];exact h.kw,by rw[r1,r3];exact h.kt,by rw[r2,r3];exact h.wtt,fun x hx q hq=>by rw[r1,r2,r3,hsb];exact(hsv x hx).2 q hq⟩
 ·rw[r4];exact o1.kp hk (fun q hq he=>h.kb (by rw[<-e1,hq,he]))
 ·rw[r5];exact o2.kp hk (fun q hq he=>h.wb (by rw[<-e2,hq,he]))
 ·rw[r6];exact o3.kp hk (fun q hq he=>h.tb (by rw[<-e3,hq,he]))
theorem Part.right{A B C:Part}{w w':World}(hl:Q8 B C w w')(ha:A.P w)(h:B.apart A):Q8 (Part.both A B) (Part.both A C) w w'/\A.apart C:=
 ⟨⟨⟨(Part.Um hl ha h).1,hl.1⟩,hl.2.1.mono (fun _ hq=> .inr hq),fun q hq=>hq.elim (fun ha=> .inl (.inl ha)) (fun hb=>(hl.2.2 q hb).imp .inr id)⟩,Part.apart.symm (Part.Um hl ha h).2⟩
theorem Ya.Q3k{P:X9}{row':Option Nat}{L':List Q9}{w w':World}(h:Ya P w)(hl:Q8 P.lp (Xv P.G P.O.lb row' L' 0) w w')(hp:Yr {P with Js:=row',L:=L'}):Q8 (Qa P) (Qa {P with Js:=row',L:=L'}) w w':=by
 obtain⟨h1,h2⟩:=Part.right (A:=Qo P.D) hl h.dl.V8 (Part.apart.symm h.dl.apart)
 obtain⟨k1,k2⟩:=Part.Um (C:=Xs P.O) h1 h.own h.apart
 exact⟨⟨⟨h1.1.1,h1.1.2,h.dl.db,h2⟩,k1,k2,h.db,hp⟩,h1.2.1.mono (fun q hq=> .inl hq),fun q hq=>hq.elim (fun hq=>(h1.2.2 q hq).imp .inl id) (fun hq=> .inl (.inr hq))⟩
theorem Yr.log{P:X9}(h:Yr P){row':Option Nat}{L':List Q9}(h1:L'.length<=6*P.bl)(h2:P.L.length<=L'.length)(h3:∀r∈L',Qq r=true):Yr {P with Js:=row',L:=L'}:=
 {h with
  len:=h1
  dn:=⟨h.dn.1,by have:=h.dn.2;show P.G.dn<=(L'.length:Int);omega⟩
  Jo:=h3}
def Y8l(P:X9)(r:Q9)(w:World)(e:Ending)(w':World):Prop:=
 ((Qq r=true/\P.L.length<6*P.bl)/\e=.returned (.tuple #[.int .i64 ((P.L.length:Int)+1),.int .i64 0])/\∃row',Q8 (Qa P) (Qa {P with Js:=row',L:=P.L++[r]}) w w')\/
 ((Qq r=false\/6*P.bl<=P.L.length)/\∃c:Int,c≠0/\e=.returned (.tuple #[.int .i64 0,.int .i64 c])/\∃row',Q8 (Qa P) (Qa {P with Js:=row',L:=P.L}) w w')
theorem Q4u(w:World)(P:X9)(r:Q9)(h:Ya P w):
  Calls Tryz.prog 26 #[.pointer (some ⟨P.O.lb,0,none⟩),Yg r] w (Y8l P r w):=by
 have hp:=h.plain
 have hg:=hp.gbl
 have hb:=hp.blk
 have hn:=hp.len
 refine(Dr (G:=P.G) w P.O.lb P.Js P.L r h.dl.log (by omega) (by omega)).mono ?_
 rintro e w' (⟨⟨h1,h2⟩,he,row',hl⟩|⟨h1,c,hc,he,row',hl⟩)
 ·exact .inl ⟨⟨h1,by omega⟩,he,row',h.Q3k hl (hp.log (by rw[List.length_append,List.length_singleton];omega) (by rw[List.length_append];omega) (fun q hq=>by
   rcases List.mem_append.1 hq with hq|hq
   ·exact hp.Jo q hq
   ·rw[List.mem_singleton.1 hq];exact h1))⟩
 ·exact .inr ⟨h1.imp_right (fun h=>by omega),c,hc,he,row',h.Q3k hl (hp.log hn (Nat.le_refl _) hp.Jo)⟩
def Vo(sb:Nat)(f k:Int):Part where
 P:=fun w=>Yw w sb f k
 U:=fun q=>q=sb
 kp:=fun h hk hn=>⟨hk.at h.at_ (hn _ rfl),h.f0,h.f1,h.k0,h.k1⟩
 lt:=fun h q hq=>by rw[hq];exact Q6 h.at_
structure WG where
 P:X9
 T:Xm
 f:Int
 k:Int
structure Qh(S:WG)(w:World):Prop where
 X2:Ya S.P w
 sto:Vr S.T w
 spa:Yw w S.T.spb S.f S.k
 a1:(Qa S.P).apart (Y6 S.T)
 a2:(Qa S.P).apart (Vo S.T.spb S.f S.k)
 a3:(Y6 S.T).apart (Vo S.T.spb S.f S.k)
 pd:S.T.db=S.P.O.db
 pl:S.T.lb=S.P.O.lb
 pp:S.T.pb=S.P.O.pb
 pg:S.T.pages=S.P.pages
 pbl:S.T.bl=S.P.bl
def Q1(S:WG):Part where
 P:=Qh S
 U:=fun q=>(Qa S.P).U q\/Y5x S.T q\/q=S.T.spb
 kp:=fun h hk hn=>⟨(Qa _).kp h.X2 hk (fun q hq=>hn q (.inl hq)),(Y6 _).kp h.sto hk (fun q hq=>hn q (.inr (.inl hq))),(Vo _ _ _).kp h.spa hk (fun q hq=>hn q (.inr (.inr hq))),h.a1,h.a2,h.a3,h.pd,h.pl,h.pp,h.pg,h.pbl⟩
 lt:=fun h q hq=>by
  rcases hq with hq|hq|hq
  ·exact(Qa _).lt h.X2 q hq
  ·exact(Y6 _).lt h.sto q hq
  ·exact(Vo _ S.f S.k).lt h.spa q hq
theorem Qh.Oi{S:WG}{P':X9}{w w':World}(h:Qh S w)(hl:Q8 (Qa S.P) (Qa P') w w')(h1:P'.O.db=S.P.O.db)(h2:P'.O.lb=S.P.O.lb)(h3:P'.O.pb=S.P.O.pb)(h4:P'.pages=S.P.pages)(h5:P'.bl=S.P.bl):Q8 (Q1 S) (Q1 {S with P:=P'}) w w':=by
 obtain⟨k1,k2⟩:=Part.Um (C:=Y6 S.T) hl h.sto h.a1
 obtain⟨k3,k4⟩:=Part.Um (C:=Vo S.T.spb S.f S.k) hl h.spa h.a2
 exact⟨⟨hl.1,k1,k3,k2,k4,h.a3,h.pd.trans h1.symm,h.pl.trans h2.symm,h.pp.trans h3.symm,h.pg.trans h4.symm,h.pbl.trans h5.symm⟩,hl.2.1.mono (fun q hq=> .inl hq),fun q hq=>hq.elim (fun hq=>(hl.2.2 q hq).imp .inl id) (fun hq=> .inl (.inr hq))⟩
theorem Qh.Uj{S:WG}{P':X9}{w w':World}(h:Qh S w)(hl:Q8 (Qa S.P) (Qa P') w w')(hs:G5 S.P P'):Q8 (Q1 S) (Q1 {S with P:=P'}) w w':=h.Oi hl hs.db hs.lb hs.pb hs.pages hs.bl
structure Kept(T T':Xm):Prop where
 sb:T'.sb=T.sb
 pb:T'.pb=T.pb
 db:T'.db=T.db
 lb:T'.lb=T.lb
 spb:T'.spb=T.spb
 pages:T'.pages=T.pages
 bl:T'.bl=T.bl
 Xf:T'.Xf=T.Xf
 Qu:T'.Qu=T.Qu
theorem Qh.Jn{S:WG}{T':Xm}{w w':World}(h:Qh S w)(hl:Q8 (Y6 S.T) (Y6 T') w w')(hk:Kept S.T T'):Q8 (Q1 S) (Q1 {S with T:=T'}) w w':=by
 obtain⟨k1,k2⟩:=Part.Um (C:=Qa S.P) hl h.X2 (Part.apart.symm h.a1)
 obtain⟨k3,k4⟩:=Part.Um (C:=Vo S.T.spb S.f S.k) hl h.spa h.a3
 refine⟨⟨k1,hl.1,by show Yw w' T'.spb S.f S.k;rw[hk.spb];exact k3,Part.apart.symm k2,?_,?_,hk.db.trans h.pd,hk.lb.trans h.pl,hk.pb.trans h.pp,hk.pages.trans h.pg,hk.bl.trans h.pbl⟩,hl.2.1.mono (fun q hq=> .inr (.inl hq)),fun q hq=> ?_⟩
 ·show(Qa S.P).apart (Vo T'.spb S.f S.k)
  rw[hk.spb];exact h.a2
 ·show(Y6 T').apart (Vo T'.spb S.f S.k)
  rw[hk.spb];exact k4
 ·rcases hq with hq|hq|hq
  ·exact .inl (.inl hq)
  ·exact(hl.2.2 q hq).imp (fun h=> .inr (.inl h)) id
  ·exact .inl (.inr (.inr (hq.trans hk.spb)))
theorem Qh.Vn{S:WG}{f k:Int}{w w':World}(h:Qh S w)(hs:Yw w' S.T.spb f k)(hk:Kp (fun q=>q=S.T.spb) w w'):Q8 (Q1 S) (Q1 {S with f:=f,k:=k}) w w':=
 ⟨⟨(Qa _).kp h.X2 hk (fun _ hq he=>h.a2 _ hq he),(Y6 _).kp h.sto hk (fun _ hq he=>h.a3 _ hq he),hs,h.a1,h.a2,h.a3,h.pd,h.pl,h.pp,h.pg,h.pbl⟩,hk.mono (fun _ hq=> .inr (.inr hq)),fun _ hq=> .inl hq⟩
theorem Vr.cells{T:Xm}{w:World}(h:Vr T w):w.cell? ⟨T.sb,0,none⟩=some (.int .i64 T.pages)/\w.cell? ⟨T.sb,3,none⟩=some (.int .i64 T.Qu)/\w.cell? ⟨T.sb,4,none⟩=some (.pointer (some ⟨T.db,0,none⟩))/\w.cell? ⟨T.sb,5,none⟩=some (.pointer (some ⟨T.lb,0,none⟩))/\w.cell? ⟨T.sb,6,none⟩=some (.pointer (some ⟨T.pb,0,none⟩))/\w.cell? ⟨T.sb,10,none⟩=some (.int .i64 T.most)/\w.cell? ⟨T.sb,11,none⟩=some (.pointer (some ⟨T.spb,0,none⟩))/\T.sb<w.heap.size:=by
 obtain⟨vk,vw,vt,_,_,_,hc,_,_,_⟩:=h.val
 refine⟨?_,?_,?_,?_,?_,?_,?_,Q6 hc⟩
 all_goals simp[World.cell?,hc,Xm.cells,Xm.head,Xm.tail]
theorem Vr.frozen{T:Xm}{w:World}(h:Vr T w)(i:Nat):w.frozen? ⟨T.sb,i,none⟩=false:=by
 obtain⟨vk,vw,vt,_,_,_,hc,_,_,_⟩:=h.val
 exact Q2 hc i
theorem Vr.Q9o{T:Xm}{w:World}(h:Vr T w){n:Nat}{id:Int}(hn:T.X1[n]? =some id):w.cell? ⟨T.sb,12+n,none⟩=some (.int .i64 id):=by
 obtain⟨vk,vw,vt,_,_,_,hc,_,_,_⟩:=h.val
 have hl:=(List.getElem?_eq_some_iff.1 hn).1
 simp only[World.cell?,hc]
 have e:(T.cells vk vw vt)[12+n]? =some (.int .i64 id):=by
  unfold Xm.cells Xm.head Xm.tail
  rw[List.getElem?_toArray,List.getElem?_append_right (by simp;omega),List.getElem?_append_right (by simp;omega)]
  rw[show 12+n - [Value.int .i64 T.pages,.int .i64 T.bl,.int .i64 T.Xf,.int .i64 T.Qu,.pointer (some ⟨T.db,0,none⟩),.pointer (some ⟨T.lb,0,none⟩),.pointer (some ⟨T.pb,0,none⟩)].length - [vk,vw,vt,.int .i64 T.most].length=n+1 from by simp;omega]
  rw[List.getElem?_cons_succ,List.getElem?_append_left (by rw[List.length_map];exact hl),List.getElem?_map,hn]
  rfl
 rw[e]
 simp
theorem Vr.Q5m{T:Xm}{w:World}(h:Vr T w){n:Nat}{x:X0v}(hn:T.sav[n]? =some x):w.cell? ⟨T.sb,20+n,none⟩=some x.v:=by
 obtain⟨vk,vw,vt,_,_,_,hc,_,_,_⟩:=h.val
 have hl:=(List.getElem?_eq_some_iff.1 hn).1
 have hm:=h.nm
 simp only[World.cell?,hc]
 have e:(T.cells vk vw vt)[20+n]? =some x.v:=by
  unfold Xm.cells Xm.head Xm.tail
  rw[List.getElem?_toArray,List.getElem?_append_right (by simp;omega),List.getElem?_append_right (by simp;omega)]
  rw[show 20+n - [Value.int .i64 T.pages,.int .i64 T.bl,.int .i64 T.Xf,.int .i64 T.Qu,.pointer (some ⟨T.db,0,none⟩),.pointer (some ⟨T.lb,0,none⟩),.pointer (some ⟨T.pb,0,none⟩)].length - [vk,vw,vt,.int .i64 T.most].length=(8+n)+1 from by simp;omega]
  rw[List.getElem?_cons_succ,List.getElem?_append_right (by rw[List.length_map];omega),List.length_map,hm,show 8+n - 8=n from by omega,List.getElem?_append_left (by rw[List.length_map];exact hl),List.getElem?_map,hn]
  rfl
 rw[e]
 simp
section
set_option maxHeartbeats 4000000
theorem X3b(w:World)(T:Xm)(n:Nat)(h:Vr T w)(hn:n<T.Qu):
  Calls Tryz.prog 135 #[.pointer (some ⟨T.sb,0,none⟩),.int .i64 n] w fun e w'=>e=.returned (.bool true)/\w=w':=by
 obtain⟨_,c3,_,_,_,_,_,lt⟩:=h.cells
 obtain⟨sb,hsb⟩:∃sb,T.sb=sb:=⟨_,rfl⟩
 obtain⟨ss,hss⟩:∃ss,T.Qu=ss:=⟨_,rfl⟩
 rw[hsb]at c3 lt ⊢
 rw[hss]at c3 hn
 have h1:(n:Int)<ss:=by omega
 have h2:(0:Int)<=n:=by omega
 clear h hsb hss
 go_enter Tryz.func135,Tryz.ntmps135
 go_wp2
 go_ret
 exact⟨rfl,rfl⟩
theorem Kept.refl(T:Xm):Kept T T:=⟨rfl,rfl,rfl,rfl,rfl,rfl,rfl,rfl,rfl⟩
theorem Q0t(w:World)(S:WG)(n:Int)(h:Qh S w)(hw:S.T.wt.length<=100000):
  Calls Tryz.prog 136 #[.pointer (some ⟨S.T.sb,8,none⟩),.int .i64 n] w fun e w'=>e=.returned (.tuple #[])/\∃wr',Q8 (Q1 S) (Q1 {S with T:={S.T with wr:=wr',wt:=Zd n S.T.wt}}) w w':=by
 obtain⟨va,vb,hr,hl⟩:=h.sto.atW
 refine(Uo w S.T.sb 8 S.T.wr S.T.wt n hr hw).mono ?_
 rintro e w' ⟨he,hle⟩
 obtain⟨wr',hlv⟩:=hl _ _ hle
 exact⟨he,wr',h.Jn hlv ⟨rfl,rfl,rfl,rfl,rfl,rfl,rfl,rfl,rfl⟩⟩
theorem Gv(w:World)(S:WG)(id:Int)(h:Qh S w)(ht:S.T.tx.length<=1000000):
  Calls Tryz.prog 82 #[.pointer (some ⟨S.T.sb,9,none⟩),.int .i64 id] w fun e w'=>e=.returned (.tuple #[Gn (got S.T.tx id),.bool (has S.T.tx id)])/\Below w.heap.size w w':=by
 obtain⟨va,vb,hr,_⟩:=h.sto.atT
 exact Q8p w S.T.sb S.T.tr S.T.tx S.T.most id hr ht
def Y6s(S:WG)(n:Nat)(e:Ending):Prop:=
 (S.T.X1[n]? =some 0/\e=.returned (.tuple #[Gn (0,0,0,0),.int .i64 113]))\/∃id,id≠0/\S.T.X1[n]? =some id/\e=.returned (.tuple #[Gn (got S.T.tx id),.int .i64 0])
def WG.Y1(S:WG)(n:Int)(wr':Option Nat):WG:={S with T:={S.T with wr:=wr',wt:=Zd n S.T.wt}}
theorem Qz{w:World}{b:Nat}{u0 u1 u2 u3:Value}{t:TypeId}(h:w.heap[b]? =some (.cells #[u0,u1,u2,u3] t (0,0))):
  w.cell? ⟨b,0,none⟩=some u0/\w.cell? ⟨b,1,none⟩=some u1/\w.cell? ⟨b,2,none⟩=some u2/\w.cell? ⟨b,3,none⟩=some u3/\w.frozen? ⟨b,0,none⟩=false/\w.frozen? ⟨b,1,none⟩=false/\w.frozen? ⟨b,2,none⟩=false/\w.frozen? ⟨b,3,none⟩=false/\b<w.heap.size:=
 ⟨by simp[World.cell?,h],by simp[World.cell?,h],by simp[World.cell?,h],by simp[World.cell?,h],Q2 h 0,Q2 h 1,Q2 h 2,Q2 h 3,Q6 h⟩
theorem Ou{w:World}{b:Nat}{u0 u1 u2 u3 x0 x1 x2 x3:Value}{t:TypeId}(h:w.heap[b]? =some (.cells #[u0,u1,u2,u3] t (0,0))):
  ((((w.setCell ⟨b,0,none⟩ x0).setCell ⟨b,1,none⟩ x1).setCell ⟨b,2,none⟩ x2).setCell ⟨b,3,none⟩ x3).heap[b]? =some (.cells #[x0,x1,x2,x3] t (0,0)):=by
 rw[Qn (Qn (Qn (Qn h 0 _) 1 _) 2 _) 3 _]
 rfl
set_option maxRecDepth 4000 in
theorem Oh(w:World)(S:WG)(n:Nat)(h:Qh S w)(hn:n<S.T.Qu)(hs:S.T.Qu<=8)(hw:S.T.wt.length<=100000)(ht:S.T.tx.length<=1000000):
  Calls Tryz.prog 94 #[.pointer (some ⟨S.T.sb,0,none⟩),.int .i64 n] w fun e w'=>Y6s S n e/\∃wr',Q8 (Q1 S) (Q1 (S.Y1 n wr')) w w':=by
 have HZ0:=Q0 h
 obtain⟨w1,hw1⟩:∃w1,w.alloc (.cells #[.int .i64 0,.int .i64 0,.int .i64 0,.int .i64 0] 58)=w1:=⟨_,rfl⟩
 have HB1:Sc (Below w.heap.size w w1):=⟨hw1▸Q3 (Below.refl _ _) _⟩
 have HC1:Sc (w1.heap[w.heap.size]? =some (.cells #[.int .i64 0,.int .i64 0,.int .i64 0,.int .i64 0] 58 (0,0))):=⟨hw1▸heap_alloc_new _ _⟩
 have HS1:Sc (w1.heap.size=w.heap.size+1):=⟨by rw[<-hw1];simp⟩
 have HZ:Sc (Qh S w1):=⟨(Q1 S).bel h HB1.o⟩
 obtain⟨b4,hb4⟩:∃b,w.heap.size=b:=⟨_,rfl⟩
 have HB4:=Q0 hb4
 obtain⟨sb,hsb⟩:∃sb,S.T.sb=sb:=⟨_,rfl⟩
 have HSB:=Q0 hsb
 have CS:Sc (Calls Tryz.prog 135 #[.pointer (some ⟨sb,0,none⟩),.int .i64 n] w1 fun e w'=>e=.returned (.bool true)/\w1=w'):=⟨by have:=X3b w1 S.T n HZ.o.sto hn;rw[hsb]at this;exact this⟩
 have CC:Sc (Calls Tryz.prog 136 #[.pointer (some ⟨sb,8,none⟩),.int .i64 n] w1 fun e w'=>e=.returned (.tuple #[])/\∃wr',Q8 (Q1 S) (Q1 (S.Y1 n wr')) w1 w'):=⟨by have:=Q0t w1 S n HZ.o hw;rw[hsb]at this;exact this⟩
 obtain⟨id,hid⟩:∃id,S.T.X1[n]? =some id:=⟨_,List.getElem?_eq_getElem (by rw[h.sto.nm];omega)⟩
 have HID:=Q0 hid
 have HT:=Q0 ht
 have hn8:n<8:=by omega
 have hn8':(n:Int)<8:=by omega
 have lt1:sb<w1.heap.size:=by have:=HZ.o.sto.cells.2.2.2.2.2.2.2;rw[hsb]at this;exact this
 rw[hsb]
 clear h hsb hw ht hid
 go_enter Tryz.func94,Tryz.ntmps94
 go_wp2_with fail
 try rw[hw1]
 try rw[hb4]
 clear hw1 hb4
 refine CS.o.mono ?_
 rintro e w' ⟨rfl,rfl⟩
 go_wp2_with fail
 refine CC.o.mono ?_
 rintro e w2 ⟨rfl,wr',hl2⟩
 have HL2:=Q0 hl2
 have c12:=hl2.1.sto.Q9o (T:=(S.Y1 n wr').T) HID.o
 rw[show(S.Y1 n wr').T.sb=sb from HSB.o]at c12
 have lt2:=World.block_lt_of_cell? _ _ c12
 have HC2:Sc (w2.heap[b4]? =some (.cells #[.int .i64 0,.int .i64 0,.int .i64 0,.int .i64 0] 58 (0,0))):=⟨hl2.2.1.at (by rw[<-HB4.o];exact HC1.o) (fun hu=>by have:=(Q1 S).lt HZ0.o _ hu;have:=HB4.o;omega)⟩
 obtain⟨z0,z1,z2,z3,y0,y1,y2,y3,lz⟩:=Qz HC2.o
 clear hl2 lt1
 by_cases h0:id=0
 ·have e0:(id==0)=true:=by simp[h0]
  have HI0:Sc (S.T.X1[n]? =some 0):=⟨by rw[<-h0];exact HID.o⟩
  go_wp2
  refine bodyPost_ret (v:=.tuple #[Gn (0,0,0,0),.int .i64 113]) (by simp[results,Tryz.results94,go_sem,z0,z1,z2,z3]) rfl ⟨.inl ⟨HI0.o,rfl⟩,wr',?_⟩
  refine Part.boxed (A:=Q1 S) HZ0.o HB1.o HL2.o ?_
  have e1:=HS1.o
  have e2:=HB4.o
  repeat (first|with_reducible exact Kp.Vd|with_reducible refine Kp.drew ?_|with_reducible refine Kp.put ?_ ⟨by omega,by omega⟩ _)
 ·have e0:(id==0)=false:=by simp[h0]
  have HI0:=Q0 h0
  have CG:Sc (∀X,Below w2.heap.size w2 X->Calls Tryz.prog 82 #[.pointer (some ⟨sb,9,none⟩),.int .i64 id] X fun e w'=>e=.returned (.tuple #[Gn (got S.T.tx id),.bool (has S.T.tx id)])/\Below w2.heap.size w2 w'/\Below X.heap.size X w'):=⟨fun X hX=>by
   have:=Gv X (S.Y1 n wr') id ((Q1 _).bel HL2.o.1 hX) HT.o
   rw[show(S.Y1 n wr').T.sb=sb from HSB.o]at this
   exact this.mono fun e w' ⟨he,hb⟩=>⟨he,Q5 hX hb,hb⟩⟩
  have HSW:Sc (∀W,Below w2.heap.size w2 W->W.cell? ⟨sb,12+n,none⟩=some (.int .i64 id)):=⟨fun W hW=>(hW.cell lt2).trans c12⟩
  have HQ:Sc (Below w2.heap.size w2 w2):=⟨Below.refl _ _⟩
  have HH:=Q0 (heap_alloc_new w2 (.cells #[.int .i64 0,.int .i64 0,.int .i64 0,.int .i64 0] 58))
  obtain⟨x,hx⟩:∃x,got S.T.tx id=x:=⟨_,rfl⟩
  have HX:=Q0 hx
  rw[hx]at CG
  have a12:(w2.alloc (.cells #[.int .i64 0,.int .i64 0,.int .i64 0,.int .i64 0] 58)).cell? ⟨sb,12+n,none⟩=some (.int .i64 id):=HSW.o _ (Q3 HQ.o _)
  clear h0 hx
  go_upto_region 6 with fail
  go_cut [6,7] from 26 to 38 (fun s6 s7 wx=>∃b,s6=.pointer (some ⟨b,0,none⟩)/\w2.heap.size<=b/\Sc (wx.heap[b]? =some (.cells #[.int .i64 x.1,.int .i64 x.2.1,.int .i64 x.2.2.1,.int .i64 x.2.2.2] 58 (0,0)))/\Sc (Below w2.heap.size w2 wx))
  case first=>
   go_region_law
    (first
     |(go_simp;go_at_call 82;go_loud (refine(CG.o _ (by first|with_reducible exact HQ.o|with_reducible exact Below.drew HQ.o|with_reducible exact Q3 HQ.o _|with_reducible exact Below.drew (Q3 HQ.o _))).mono ?_;rintro e wt ⟨rfl,hq,hq2⟩;have HQ:=Q0 hq;(try have HN:=Q0 (up hq2 HH.o));(try obtain⟨n0,n1,n2,n3,m0,m1,m2,m3,ln⟩:=Qz (up hq2 HH.o));clear hq hq2)))
   all_goals
    go_wp2_with fail
    go_meet
    case rel=>
     first
      |exact⟨_,rfl,HQ.o.size,⟨heap_alloc_new _ _⟩,⟨Q3 HQ.o _⟩⟩
      |exact⟨_,rfl,Nat.le_refl _,⟨Ou HN.o⟩,⟨(((HQ.o.setCell (Nat.le_refl _) _).setCell (Nat.le_refl _) _).setCell (Nat.le_refl _) _).setCell (Nat.le_refl _) _⟩⟩
      |exact⟨_,rfl,HQ.o.size,⟨heap_alloc_new _ _⟩,⟨Below.drew (Q3 HQ.o _)⟩⟩
  case rest=>
   obtain⟨bn,rfl,hbn,HXN,HBX⟩:=hcut
   obtain⟨w3,rfl⟩:∃w3,w3=wc:=⟨_,rfl⟩
   clear z0 z1 z2 z3 y0 y1 y2 y3 lz a12 c12
   obtain⟨z0,z1,z2,z3,y0,y1,y2,y3,lz⟩:=Qz (up HBX.o HC2.o)
   obtain⟨x0,x1,x2,x3,_,_,_,_,lx⟩:=Qz HXN.o
   go_wp2
   refine bodyPost_ret (v:=.tuple #[Gn x,.int .i64 0]) (by simp[results,Tryz.results94,go_sem,z0,z1,z2,z3]) rfl ⟨.inr ⟨id,HI0.o,HID.o,by rw[HX.o]⟩,wr',?_⟩
   refine Part.boxed (A:=Q1 S) HZ0.o HB1.o (Part.Qs HL2.o HBX.o) ?_
   have e1:=HS1.o
   have e2:=HB4.o
   repeat (first|with_reducible exact Kp.Vd|with_reducible refine Kp.drew ?_|with_reducible refine Kp.put ?_ ⟨by omega,by omega⟩ _)
end
section
def G8(s:Int)(who:List Int):List (Int×Int):=(who.filter fun x=>decide (x≠s)).map fun x=>(s,x)
theorem X5r{s:Int}{l:List Int}{i:Nat}{x:Int}(hx:l[i]? =some x):G8 s (l.take (i+1))=if x=s then G8 s (l.take i) else G8 s (l.take i)++[(s,x)]:=by
 unfold G8
 rw[Ux hx]
 by_cases h:x=s<;>simp[h]
theorem Q0k(s:Int)(who:List Int):(G8 s who).length<=who.length:=by
 unfold G8
 rw[List.length_map]
 exact List.length_filter_le _ _
theorem X1v{w w2:World}{r:Option Nat}(h:w.drew.grownBy w2 r):w.grownBy w2 r:=⟨h.os,h.tape,h.output,h.size,h.block⟩
variable{F:Fld}
set_option maxRecDepth 4000 in
set_option maxHeartbeats 4000000 in
theorem Q7i(w:World)(tb o:Nat)(row:Option Nat)(l:List (Int×Int))(s:Int)(vw:Value)(who:List Int)(h:Q3v F w tb o row l)(hlen:l.length<=100000)(how:Own X6 1 3 0 w vw who)(hap:∀q,vw.ownBlock=some q->¬(q=tb\/some q=row))(hwl:who.length<=100000):
  Calls Tryz.prog 139 #[.pointer (some ⟨tb,o,none⟩),.int .i64 s,vw] w fun e w'=>e=.returned (.tuple #[])/\Y6j F tb o row (Zd s l++G8 s who) w w':=by
 obtain⟨it,hi,hz0,hz1,hz2⟩:=info_parts Q4m
 obtain⟨Aw,capw,rfl,hncw,hcmw⟩:=how.slice
 obtain⟨m,hm⟩:∃m,who.length=m:=⟨_,rfl⟩
 rw[hm]at how hap hwl hncw ⊢
 have HM:=Q0 hm
 have HW:=Q0 how
 have HAPW:=Q0 hap
 have HH:=Q0 h
 have HTL:=Q0 h.lt
 have hcl:(Zd s l).length<=100000:=Nat.le_trans (List.length_filter_le _ _) hlen
 have hlen0:=hlen
 clear how hap h hm
 go_enter Tryz.func139,Tryz.ntmps139
 go_wp2_with fail
 refine(Uo w tb o row l s HH.o hlen0).mono ?_
 rintro e w1 ⟨rfl,hl⟩
 have HL:=Q0 hl
 clear hl
 go_wp2_with fail
 go_loopg [6] m (fun kx s6 wr=>∃i:Nat,s6=.int .i64 i/\i<=m/\m - i<=kx/\Sc (Y6j F tb o row (Zd s l++G8 s (who.take i)) w wr))
 case atStart=>exact⟨0,rfl,Nat.zero_le _,by omega,⟨by have:=HL.o;simpa [G8] using this⟩⟩
 case round=>
  obtain⟨i,rfl,hin,hg,HLI⟩:=hrel
  clear HL
  by_cases hlt:i<m
  ·obtain⟨x,hx⟩:∃x,who[i]? =some x:=⟨_,List.getElem?_eq_getElem (by rw[HM.o];exact hlt)⟩
   obtain⟨row1,hr1,hk1,hat1⟩:=HLI.o
   have hwr:Own X6 1 3 0 wr (.slice Aw m capw) who:=HW.o.kp hk1 HAPW.o
   obtain⟨g,c2,he,_,_,_,_⟩:=hwr.form (by rw[HM.o];omega)
   injection he with hA hn2 hC
   subst hA
   have d0:=hwr.Uw hx
   have lg:=World.block_lt_of_cell? _ _ d0
   have HX:=Q0 (X5r (s:=s) hx)
   have hil:(i:Int)<m:=by omega
   have HK1:=Q0 hk1
   have HAT1:=Q0 hat1
   obtain⟨⟨v,hv,hc,ho⟩,ha⟩:=hr1
   obtain⟨A,cap,rfl,hnc,hcm⟩:=ho.slice
   obtain⟨n,hn⟩:∃n,(Zd s l++G8 s (who.take i)).length=n:=⟨_,rfl⟩
   have hnb:n<=200000:=by
    have:=Q0k s (who.take i)
    rw[List.length_take]at this
    rw[<-hn,List.length_append]
    omega
   rw[hn]at ho hc hnc hv
   obtain⟨L,hL⟩:∃L,Zd s l++G8 s (who.take i)=L:=⟨_,rfl⟩
   have HN:Sc (L.length=n):=⟨by rw[<-hL];exact hn⟩
   rw[hL]at ho
   have HLL:=Q0 hL
   have HO:=Q0 ho
   have HC:=Q0 hc
   have HV:=Q0 hv
   have HA:=Q0 ha
   have HT1:Sc (tb<wr.heap.size):=⟨hc.lt⟩
   have c0:=hc.cell0
   have lc:=hc.lt
   have f0:=hc.Qr o
   clear hx hn2 hC hwr hk1 hat1 hv hc ho ha hn hL hcm
   by_cases hs:x=s
   ·have e1:(x==s)=true:=by simp[hs]
    have e2:(x !=s)=false:=by simp[hs]
    have HX2:Sc (G8 s (who.take (i+1))=G8 s (who.take i)):=⟨by rw[HX.o,if_pos hs]⟩
    clear hs
    go_wp2
    go_roundg (m - (i+1))
    case measure=>omega
    case rel=>exact⟨i+1,by go_num,by omega,Nat.le_refl _,⟨by rw[HX2.o];exact HLI.o⟩⟩
   ·have e1:(x==s)=false:=by simp[hs]
    have e2:(x !=s)=true:=by simp[hs]
    have HX2:Sc (Zd s l++G8 s (who.take (i+1))=L++[(s,x)]):=⟨by rw[HX.o,if_neg hs,<-List.append_assoc,HLL.o]⟩
    have HM1:Sc (n+1<=maxLen):=⟨by unfold maxLen;omega⟩
    have HM2:Sc ((n+1)*16<=140737488355328):=⟨by omega⟩
    clear hs
    go_wp2_with fail
    go_region_law (first|((refine step_append_lies _ (by rfl) (.tmp 26) (.tmp 33) 82 (by rfl) 0 188 it (.agg #[.int .i64 0,.int .i64 0]) 2 16 Tryz.underlying82 hi hz0 hz1 hz2 rfl (by decide) _ n (flat Qj L) (by rfl) (((HO.o.rows HN.o).alloc _).drew) ⟨wr.heap.size,0,none⟩ 1 1 (Qj (s,x)) (by rfl) (by rfl) (World.news_of_block (heap_alloc_new wr (.cells (Qj (s,x)).toArray 188))) (Xh.one _) Nat.one_pos HM1.o HM2.o (Nat.zero_le _) (wr.heap.size+1) (by simp) ?_);intro ga ca wa g1 g2 g3 g4;obtain⟨hce,hll⟩:=Xj.Y1l (l:=L++[(s,x)]) (enc:=Qj) (sz:=2) (te:= 188) (w:=wr) (Q3 (Below.refl _ _) (.cells (Qj (s,x)).toArray 188)) HT1.o (HC.o.bel (Q3 (Below.refl _ _) _)) HV.o HA.o (Own.Qv g1 (by rw[List.length_append,HN.o];rfl) (by rw[Qc,Qm])) (X1v g2) (g3.elim .inl (fun h=> .inr (by rw[h];simp)));have c0:=hce.cell0;have lc:=hce.lt;have f0:=hce.Qr o;have HLQ:=Q0 hll;clear g1 g2 g3 g4 hll hce))
    all_goals
     go_wp2
     go_roundg (m - (i+1))
     case measure=>omega
     case rel=>exact⟨i+1,by go_num,by omega,Nat.le_refl _,⟨by rw[HX2.o];exact Xj.trans HK1.o HAT1.o HLQ.o⟩⟩
  ·obtain rfl:i=m:=by omega
   have HE:Sc (who.take i=who):=⟨by rw[<-HM.o,List.take_length]⟩
   go_wp2
   go_end0
   exact⟨rfl,by have:=HLI.o;rwa [HE.o]at this⟩
end
theorem Ys(T:Xm){kr wr tr:Option Nat}{lk:List (Int×Int×Int)}{wt:List (Int×Int)}{tx:List TX}{most:Int}{X1:List Int}{sav:List X0v}{ck:Int}:Kept T {T with kr:=kr,wr:=wr,tr:=tr,lk:=lk,wt:=wt,tx:=tx,most:=most,X1:=X1,sav:=sav,ck:=ck}:=⟨rfl,rfl,rfl,rfl,rfl,rfl,rfl,rfl,rfl⟩
def WG.trans(S:WG)(tr:Option Nat)(tx:List TX)(most:Int):WG:={S with T:={S.T with tr:=tr,tx:=tx,most:=most}}
def WG.Q4n(S:WG)(kr:Option Nat)(lk:List (Int×Int×Int)):WG:={S with T:={S.T with kr:=kr,lk:=lk}}
def WG.waits(S:WG)(wr:Option Nat)(wt:List (Int×Int)):WG:={S with T:={S.T with wr:=wr,wt:=wt}}
def WG.space(S:WG)(f k:Int):WG:={S with f:=f,k:=k}
def WG.Xg(S:WG)(row:Option Nat)(L:List Q9):WG:={S with P:={S.P with Js:=row,L:=L}}
def WG.minus(S:WG)(n:Nat)(id:Int):WG:={S with T:={S.T with X1:=S.T.X1.set n id}}
def WG.saved(S:WG)(n:Nat)(x:X0v):WG:={S with T:={S.T with sav:=S.T.sav.set n x}}
theorem X0h(w:World)(S:WG)(h:Qh S w)(ht:S.T.tx.length<=1000000)(h0:0<=S.T.most)(h1:S.T.most<60000):
  Calls Tryz.prog 96 #[.pointer (some ⟨S.T.sb,9,none⟩)] w fun e w'=>e=.returned (.tuple #[.int .i64 (S.T.most+1),.bool true])/\∃tr',Q8 (Q1 S) (Q1 (S.trans tr' (Qt S.T.tx (S.T.most+1,0,0,0)) (S.T.most+1))) w w':=by
 obtain⟨va,vb,hr,hl⟩:=h.sto.atT
 refine(X4c w S.T.sb S.T.tr S.T.tx S.T.most hr ht h0 h1).mono ?_
 rintro e w' ⟨he,hle⟩
 obtain⟨tr',hlv⟩:=hl _ _ _ hle
 exact⟨he,tr',h.Jn hlv (Ys S.T)⟩
theorem D0(w:World)(S:WG)(p a b:Int)(h:Qh S w)(ht:S.T.tx.length<=1000000):
  Calls Tryz.prog 85 #[.pointer (some ⟨S.T.sb,9,none⟩),.int .i64 p,.int .i64 a,.int .i64 b] w fun e w'=>e=.returned (.bool (has S.T.tx p))/\∃tr',Q8 (Q1 S) (Q1 (S.trans tr' (upd S.T.tx p (fun y=>(y.1,a,b))) (S.T.most))) w w':=by
 obtain⟨va,vb,hr,hl⟩:=h.sto.atT
 refine(Q5z w S.T.sb S.T.tr S.T.tx S.T.most p a b hr ht).mono ?_
 rintro e w' ⟨he,hle⟩
 obtain⟨tr',hlv⟩:=hl _ _ _ hle
 exact⟨he,tr',h.Jn hlv (Ys S.T)⟩
theorem X0l(w:World)(S:WG)(p s:Int)(h:Qh S w)(ht:S.T.tx.length<=1000000):
  Calls Tryz.prog 83 #[.pointer (some ⟨S.T.sb,9,none⟩),.int .i64 p,.int .i64 s] w fun e w'=>e=.returned (.bool (has S.T.tx p))/\∃tr',Q8 (Q1 S) (Q1 (S.trans tr' (upd S.T.tx p (fun y=>(s,y.2.1,y.2.2))) (S.T.most))) w w':=by
 obtain⟨va,vb,hr,hl⟩:=h.sto.atT
 refine(Q2p w S.T.sb S.T.tr S.T.tx S.T.most p s hr ht).mono ?_
 rintro e w' ⟨he,hle⟩
 obtain⟨tr',hlv⟩:=hl _ _ _ hle
 exact⟨he,tr',h.Jn hlv (Ys S.T)⟩
theorem X3h(w:World)(S:WG)(p:Int)(h:Qh S w)(ht:S.T.tx.length<=1000000):
  Calls Tryz.prog 84 #[.pointer (some ⟨S.T.sb,9,none⟩),.int .i64 p] w fun e w'=>e=.returned (.bool (has S.T.tx p))/\∃tr',Q8 (Q1 S) (Q1 (S.trans tr' (X4 S.T.tx p) (S.T.most))) w w':=by
 obtain⟨va,vb,hr,hl⟩:=h.sto.atT
 refine(Ck w S.T.sb S.T.tr S.T.tx S.T.most p hr ht).mono ?_
 rintro e w' ⟨he,hle⟩
 obtain⟨tr',hlv⟩:=hl _ _ _ hle
 exact⟨he,tr',h.Jn hlv (Ys S.T)⟩
theorem X3i(w:World)(S:WG)(s:Int)(h:Qh S w)(hlen:S.T.lk.length<=100000):
  Calls Tryz.prog 147 #[.pointer (some ⟨S.T.sb,7,none⟩),.int .i64 s] w fun e w'=>e=.returned (.tuple #[])/\∃r',Q8 (Q1 S) (Q1 (S.Q4n r' (Of s S.T.lk))) w w':=by
 obtain⟨va,vb,hr,hl⟩:=h.sto.atK
 refine(Q6j w S.T.sb 7 S.T.kr S.T.lk s hr hlen).mono ?_
 rintro e w' ⟨he,hle⟩
 obtain⟨r',hlv⟩:=hl _ _ hle
 exact⟨he,r',h.Jn hlv (Ys S.T)⟩
theorem X3m(w:World)(S:WG)(s key mode:Int)(h:Qh S w)(hlen:S.T.lk.length<=100000)(hm:mode=1\/mode=2)(hwho:D6 s key mode S.T.lk=[]):
  Calls Tryz.prog 141 #[.pointer (some ⟨S.T.sb,7,none⟩),.int .i64 s,.int .i64 key,.int .i64 mode] w fun e w'=>e=.returned (.bool true)/\∃r',Q8 (Q1 S) (Q1 (S.Q4n r' (Zu s key mode S.T.lk))) w w':=by
 obtain⟨va,vb,hr,hl⟩:=h.sto.atK
 refine(Q6l w S.T.sb 7 S.T.kr S.T.lk s key mode hr hm hwho hlen).mono ?_
 rintro e w' ⟨he,hle⟩
 obtain⟨r',hlv⟩:=hl _ _ hle
 exact⟨he,r',h.Jn hlv (Ys S.T)⟩
theorem X3j(w:World)(S:WG)(s:Int)(h:Qh S w)(hlen:S.T.wt.length<=100000):
  Calls Tryz.prog 148 #[.pointer (some ⟨S.T.sb,8,none⟩),.int .i64 s] w fun e w'=>e=.returned (.tuple #[])/\∃r',Q8 (Q1 S) (Q1 (S.waits r' (Q2d s S.T.wt))) w w':=by
 obtain⟨va,vb,hr,hl⟩:=h.sto.atW
 refine(Q7h w S.T.sb 8 S.T.wr S.T.wt s hr hlen).mono ?_
 rintro e w' ⟨he,hle⟩
 obtain⟨r',hlv⟩:=hl _ _ hle
 exact⟨he,r',h.Jn hlv (Ys S.T)⟩
theorem X3n(w:World)(S:WG)(s:Int)(vw:Value)(who:List Int)(h:Qh S w)(hlen:S.T.wt.length<=100000)(how:Own X6 1 3 0 w vw who)(hap:∀q,vw.ownBlock=some q->¬(q=S.T.sb\/some q=S.T.wr))(hwl:who.length<=100000):
  Calls Tryz.prog 139 #[.pointer (some ⟨S.T.sb,8,none⟩),.int .i64 s,vw] w fun e w'=>e=.returned (.tuple #[])/\∃r',Q8 (Q1 S) (Q1 (S.waits r' (Zd s S.T.wt++G8 s who))) w w':=by
 obtain⟨va,vb,hr,hl⟩:=h.sto.atW
 refine(Q7i w S.T.sb 8 S.T.wr S.T.wt s vw who hr hlen how hap hwl).mono ?_
 rintro e w' ⟨he,hle⟩
 obtain⟨r',hlv⟩:=hl _ _ hle
 exact⟨he,r',h.Jn hlv (Ys S.T)⟩
theorem X6p(w:World)(S:WG)(s key mode:Int)(h:Qh S w)(hlen:S.T.lk.length<=100000):
  Calls Tryz.prog 138 #[.pointer (some ⟨S.T.sb,7,none⟩),.int .i64 s,.int .i64 key,.int .i64 mode] w fun e w'=>∃v',e=.returned v'/\Own X6 1 3 0 w' v' (D6 s key mode S.T.lk)/\Below w.heap.size w w':=by
 obtain⟨va,vb,hr,_⟩:=h.sto.atK
 exact Q0e w S.T.sb 7 S.T.kr S.T.lk s key mode hr hlen
theorem X3k(w:World)(S:WG)(h:Qh S w)(hlen:S.T.lk.length<=100000):
  Calls Tryz.prog 142 #[.pointer (some ⟨S.T.sb,7,none⟩)] w fun e w'=>∃v',e=.returned v'/\Own X6 1 3 0 w' v' (V3 S.T.lk)/\Below w.heap.size w w':=by
 obtain⟨va,vb,hr,_⟩:=h.sto.atK
 exact Q6k w S.T.sb 7 S.T.kr S.T.lk hr hlen
theorem X0j(w:World)(S:WG)(s:Int)(h:Qh S w)(hlen:S.T.wt.length<=100000):
  Calls Tryz.prog 140 #[.pointer (some ⟨S.T.sb,8,none⟩),.int .i64 s] w fun e w'=>Q3t e/\Below w.heap.size w w':=by
 obtain⟨va,vb,hr,_⟩:=h.sto.atW
 exact Q5v w S.T.sb 8 S.T.wr S.T.wt s hr hlen
theorem X3w(w:World)(S:WG)(u q:Int)(h:Qh S w)(hu:0<=u)(hu1:u<=1000000)(hq:0<=q)(hq1:q<=1000000)(hs:S.k+q<=1000000):
  Calls Tryz.prog 95 #[.pointer (some ⟨S.T.spb,0,none⟩),.int .i64 u,.int .i64 q] w fun e w'=>(e=.returned (.int .i64 109)/\Q8 (Q1 S) (Q1 S) w w')\/(u+q<=S.f/\e=.returned (.int .i64 0)/\Q8 (Q1 S) (Q1 (S.space (S.f - u - q) (S.k+q))) w w'):=by
 refine(Q0q w S.T.spb S.f S.k u q h.spa hu hu1 hq hq1 hs).mono ?_
 rintro e w' ⟨hk,⟨_,he,hs⟩|⟨h1,he,hs⟩⟩
 ·exact .inl ⟨he,h.Vn hs hk⟩
 ·exact .inr ⟨h1,he,h.Vn hs hk⟩
theorem E9(w:World)(S:WG)(n:Int)(h:Qh S w)(h0:0<=n)(h1:n<=1000000):
  Calls Tryz.prog 106 #[.pointer (some ⟨S.T.spb,0,none⟩),.int .i64 n] w fun e w'=>∃(b:Bool) (k:Int),e=.returned (.bool b)/\k<=S.k/\Q8 (Q1 S) (Q1 (S.space S.f k)) w w':=by
 refine(Ey w S.T.spb S.f S.k n h.spa h0 h1).mono ?_
 rintro e w' ⟨hk,⟨_,he,hs⟩|⟨_,he,hs⟩⟩
 ·exact⟨false,S.k,he,Int.le_refl _,h.Vn hs hk⟩
 ·exact⟨true,S.k - n,he,by omega,h.Vn hs hk⟩
theorem Y3u(w:World)(S:WG)(n:Int)(h:Qh S w)(h0:0<=n)(h1:n<=1000000)(hs:S.f+n<=1000000):
  Calls Tryz.prog 97 #[.pointer (some ⟨S.T.spb,0,none⟩),.int .i64 n] w fun e w'=>∃(b:Bool) (f k:Int),e=.returned (.bool b)/\f+k<=S.f+S.k/\Q8 (Q1 S) (Q1 (S.space f k)) w w':=by
 refine(X0e w S.T.spb S.f S.k n h.spa h0 h1 hs).mono ?_
 rintro e w' ⟨hk,⟨_,he,hs⟩|⟨_,he,hs⟩⟩
 ·exact⟨false,S.f,S.k,he,Int.le_refl _,h.Vn hs hk⟩
 ·exact⟨true,S.f+n,S.k - n,he,by omega,h.Vn hs hk⟩
def Y7v(S:WG)(r:Q9)(w:World)(e:Ending)(w':World):Prop:=
 ((Qq r=true/\S.P.L.length<6*S.P.bl)/\e=.returned (.tuple #[.int .i64 ((S.P.L.length:Int)+1),.int .i64 0])/\∃row',Q8 (Q1 S) (Q1 (S.Xg row' (S.P.L++[r]))) w w')\/
 ((Qq r=false\/6*S.P.bl<=S.P.L.length)/\∃c:Int,c≠0/\e=.returned (.tuple #[.int .i64 0,.int .i64 c])/\∃row',Q8 (Q1 S) (Q1 (S.Xg row' S.P.L)) w w')
theorem Q2n(w:World)(S:WG)(r:Q9)(h:Qh S w):
  Calls Tryz.prog 26 #[.pointer (some ⟨S.T.lb,0,none⟩),Yg r] w (Y7v S r w):=by
 rw[h.pl]
 refine(Q4u w S.P r h.X2).mono ?_
 rintro e w' (⟨h1,he,row',hl⟩|⟨h1,c,hc,he,row',hl⟩)
 ·exact .inl ⟨h1,he,row',h.Oi hl rfl rfl rfl rfl rfl⟩
 ·exact .inr ⟨h1,c,hc,he,row',h.Oi hl rfl rfl rfl rfl rfl⟩
theorem Qh.X7q{S:WG}{w:World}(h:Qh S w){n:Nat}(hn:n<8)(id:Int):Q8 (Q1 S) (Q1 (S.minus n id)) w (w.setCell ⟨S.T.sb,12+n,none⟩ (.int .i64 id)):=by
 have hk:Kp (fun q=>q=S.T.sb) w (w.setCell ⟨S.T.sb,12+n,none⟩ (.int .i64 id)):=Kp.setCell w ⟨S.T.sb,12+n,none⟩ _
 have hnm:=h.sto.nm
 refine h.Jn ⟨h.sto.X5z rfl ⟨rfl,rfl,rfl,rfl,rfl,rfl⟩ hk (fun vk vw vt hc=> ?_) (by show(S.T.X1.set n id).length=8;rw[List.length_set];exact hnm) h.sto.ns (fun x hx=>⟨(h.sto.sv x hx).kp hk (fun q hq he=>(h.sto.far x hx q hq).1 he),h.sto.far x hx⟩),hk.mono (fun q hq=> .inl hq),fun q hq=> .inl hq⟩ (Ys S.T)
 rw[Qn hc (12+n) _]
 congr 2
 unfold Xm.cells Xm.head Xm.tail
 apply Array.ext'
 simp only[Array.toList_setIfInBounds]
 rw[List.set_append_right _ _ (by simp;omega),List.set_append_right _ _ (by simp;omega)]
 rw[show 12+n - [Value.int .i64 S.T.pages,.int .i64 S.T.bl,.int .i64 S.T.Xf,.int .i64 S.T.Qu,.pointer (some ⟨S.T.db,0,none⟩),.pointer (some ⟨S.T.lb,0,none⟩),.pointer (some ⟨S.T.pb,0,none⟩)].length - [vk,vw,vt,.int .i64 S.T.most].length=n+1 from by simp;omega]
 rw[List.set_cons_succ,List.set_append_left _ _ (by rw[List.length_map,hnm];exact hn),<-List.map_set]
theorem Qh.X6g{S:WG}{w0 w:World}(h:Qh S w)(h0:∀q,Y5x S.T q->q<w0.heap.size)(hb:Below w0.heap.size w0 w){n:Nat}{x y:X0v}(hn:n<8)(hy:S.T.sav[n]? =some y)(hx:Own X6 1 3 0 w x.v x.l)(hat:∀q,x.v.ownBlock=some q->y.v.ownBlock=some q\/w0.heap.size<=q):Q8 (Y6 S.T) (Y6 (S.saved n x).T) w0 (w.setCell ⟨S.T.sb,20+n,none⟩ x.v):=by
 have hk:Kp (fun q=>q=S.T.sb) w (w.setCell ⟨S.T.sb,20+n,none⟩ x.v):=Kp.setCell w ⟨S.T.sb,20+n,none⟩ _
 have hnm:=h.sto.nm
 have hns:=h.sto.ns
 have hfx:∀q,x.v.ownBlock=some q->q≠S.T.sb/\S.T.kr≠some q/\S.T.wr≠some q/\S.T.tr≠some q:=fun q hq=>by
  rcases hat q hq with h1|h1
  ·exact h.sto.far y (List.mem_of_getElem? hy) q h1
  ·exact⟨fun he=>by have:=h0 S.T.sb (.inl rfl);omega,fun he=>by have:=h0 q (.inr (.inl he));omega,fun he=>by have:=h0 q (.inr (.inr (.inl he)));omega,fun he=>by have:=h0 q (.inr (.inr (.inr (.inl he))));omega⟩
 refine⟨h.sto.X5z rfl ⟨rfl,rfl,rfl,rfl,rfl,rfl⟩ hk (fun vk vw vt hc=> ?_) hnm (by show(S.T.sav.set n x).length=8;rw[List.length_set];exact hns) (fun z hz=> ?_),(Kp.Qi hb _).trans hk (fun q hq=> .inl (.inl hq)),fun q hq=> ?_⟩
 ·rw[Qn hc (20+n) _]
  congr 2
  unfold Xm.cells Xm.head Xm.tail
  apply Array.ext'
  simp only[Array.toList_setIfInBounds]
  rw[List.set_append_right _ _ (by simp;omega),List.set_append_right _ _ (by simp;omega)]
  rw[show 20+n - [Value.int .i64 S.T.pages,.int .i64 S.T.bl,.int .i64 S.T.Xf,.int .i64 S.T.Qu,.pointer (some ⟨S.T.db,0,none⟩),.pointer (some ⟨S.T.lb,0,none⟩),.pointer (some ⟨S.T.pb,0,none⟩)].length - [vk,vw,vt,.int .i64 S.T.most].length=(8+n)+1 from by simp;omega]
  rw[List.set_cons_succ,List.set_append_right _ _ (by rw[List.length_map,hnm];omega),List.length_map,hnm,show 8+n - 8=n from by omega,List.set_append_left _ _ (by rw[List.length_map,hns];exact hn),<-List.map_set]
  rfl
 ·rcases List.mem_or_eq_of_mem_set (show z∈S.T.sav.set n x from hz) with hz|rfl
  ·exact⟨(h.sto.sv z hz).kp hk (fun q hq he=>(h.sto.far z hz q hq).1 he),h.sto.far z hz⟩
  ·exact⟨hx.kp hk (fun q hq he=>(hfx q hq).1 he),hfx⟩
 ·rcases hq with hq|hq|hq|hq|⟨z,hz,hq⟩
  ·exact .inl (.inl hq)
  ·exact .inl (.inr (.inl hq))
  ·exact .inl (.inr (.inr (.inl hq)))
  ·exact .inl (.inr (.inr (.inr (.inl hq))))
  ·rcases List.mem_or_eq_of_mem_set (show z∈S.T.sav.set n x from hz) with hz|rfl
   ·exact .inl (.inr (.inr (.inr (.inr ⟨z,hz,hq⟩))))
   ·rcases hat q hq with h1|h1
    ·exact .inl (.inr (.inr (.inr (.inr ⟨y,List.mem_of_getElem? hy,h1⟩))))
    ·exact .inr h1
theorem Qh.Y3g{S:WG}{w:World}(h:Qh S w){n:Nat}(hn:n<8):Q8 (Q1 S) (Q1 (S.saved n ⟨none,0,0,[]⟩)) w (w.setCell ⟨S.T.sb,20+n,none⟩ (.slice none 0 0)):=by
 obtain⟨y,hy⟩:∃y,S.T.sav[n]? =some y:=⟨_,List.getElem?_eq_getElem (by rw[h.sto.ns];exact hn)⟩
 exact h.Jn (h.X6g (w0:=w) (x:=⟨none,0,0,[]⟩) ((Y6 S.T).lt h.sto) (Below.refl _ _) hn hy Own.nil (fun q hq=>by cases hq)) (Ys S.T)
def WG.abs(S:WG):Abs:=⟨S.P.L,S.T.tx,S.T.most,S.T.lk,S.T.X1,S.P.pv,S.P.O.tab,S.T.ck⟩
structure Cnt(S:WG)(k v:Nat):Prop where
 Qu:S.T.Qu<=8
 lk:S.T.lk.length<=k
 wt:S.T.wt.length<=k*k
 tx:S.T.tx.length<=k
 most:S.T.most<=k
 vm:S.P.D.vm<=v
 sp:S.f+S.k<=400
 small:k<=200
 sav:∀x∈S.T.sav,x.l.length<=20
 md:∀h∈S.T.lk,h.2.2<=2
structure Yn(S S':WG)(k v:Nat)(w w':World):Prop where
 leaves:Q8 (Q1 S) (Q1 S') w w'
 kept:Kept S.T S'.T
 cnt:Cnt S' k v
 ok:Ok S'.P.pages (6*S'.P.bl) S'.abs
theorem Zo(s:Int)(l:List (Int×Int)):(Zd s l).length<=l.length:=by unfold Zd;exact List.length_filter_le _ _
section
variable{pages:Int}{cap:Nat}{A:Abs}
abbrev Q5c:Q9:=⟨7,0,0,0,0,0,false,false,0,0⟩
abbrev Cd(x:TX):Q9:=⟨8,x.1,0,x.2.2.1,x.2.2.2,x.2.1,false,false,0,0⟩
abbrev Cc(y:Int×Int):Q9:=⟨9,0,y.1,y.2,0,0,false,false,0,0⟩
abbrev Y0c(most:Int):Q9:=⟨10,0,0,0,most,0,false,false,0,0⟩
def C7(tx:List TX)(tab:List (Int×Int))(most:Int):List Q9:=tx.map Cd++(tab.map Cc++[Y0c most])
def Vw(tx:List TX)(tab:List (Int×Int))(most:Int):List Q9:=Q5c::C7 tx tab most
theorem X7v(most:Int)(rest:List Q9):∀(t2 t1:List TX) (lsn m1:Int),Qd (t1++t2)->(∀x∈t2,x.2.2.1<lsn/\x.2.2.2<lsn/\x.1<=most)->m1<=most->∃m2,m2<=most/\Xz 0 lsn (t2.map Cd++rest) ⟨t1,m1,[],true⟩=Xz 0 (lsn+t2.length) rest ⟨t1++t2,m2,[],true⟩
 |[],t1,lsn,m1,_,_,hm=>⟨m1,hm,by simp⟩
 |x::t2,t1,lsn,m1,hr,hx,hm=>by
  obtain⟨h1,h2,h3⟩:=hx x List.mem_cons_self
  have hlt:∀y∈t1,y.1<x.1:=fun y hy=>(List.pairwise_append.1 hr).2.2 y hy x List.mem_cons_self
  have hs:Qt t1 (x.1,x.2.1,x.2.2.1,x.2.2.2)=t1++[x]:=Oj (x:=x) hlt
  obtain⟨m2,hm2,he⟩:=X7v most rest t2 (t1++[x]) (lsn+1) (max m1 x.1) (by rw[List.append_assoc];exact hr) (fun y hy=>by obtain⟨g1,g2,g3⟩:=hx y (List.mem_cons_of_mem _ hy);exact⟨by omega,by omega,g3⟩) (by omega)
  refine⟨m2,hm2,?_⟩
  rw[List.map_cons,List.cons_append,Xz]
  have hst:Xc 0 lsn (Cd x) ⟨t1,m1,[],true⟩=(true,⟨t1++[x],max m1 x.1,[],true⟩):=by
   unfold Xc
   rw[if_pos rfl]
   unfold J2
   rw[if_pos rfl]
   show(decide (x.2.2.1<lsn)&&decide (x.2.2.2<lsn),(⟨Qt t1 (x.1,x.2.1,x.2.2.1,x.2.2.2),max m1 x.1,[],true⟩:An))=_
   rw[decide_eq_true h1,decide_eq_true h2,hs]
   rfl
  rw[hst,if_pos rfl,he,List.length_cons,List.append_assoc]
  congr 1
  omega
theorem Q8k(rest:List Q9)(t:List TX)(m:Int):∀(tab:List (Int×Int)) (d:List (Int×Int)) (lsn:Int),(∀y∈tab,0<y.2/\y.2<lsn)->∃d',Xz 0 lsn (tab.map Cc++rest) ⟨t,m,d,true⟩=Xz 0 (lsn+tab.length) rest ⟨t,m,d',true⟩
 |[],d,lsn,_=>⟨d,by simp⟩
 |y::tab,d,lsn,hy=>by
  obtain⟨h1,h2⟩:=hy y List.mem_cons_self
  obtain⟨d',he⟩:=Q8k rest t m tab (add d (y.1,y.2)) (lsn+1) (fun z hz=>by obtain⟨g1,g2⟩:=hy z (List.mem_cons_of_mem _ hz);exact⟨g1,by omega⟩)
  refine⟨d',?_⟩
  rw[List.map_cons,List.cons_append,Xz]
  have hst:Xc 0 lsn (Cc y) ⟨t,m,d,true⟩=(true,⟨t,m,add d (y.1,y.2),true⟩):=by
   unfold Xc
   rw[if_pos rfl]
   unfold J2
   rw[if_neg (by show ¬((9:Int)=8);omega),if_pos rfl]
   show(decide ((0:Int)<y.2)&&decide (y.2<lsn),(⟨t,m,add d (y.1,y.2),true⟩:An))=_
   rw[decide_eq_true h1,decide_eq_true h2]
   rfl
  rw[hst,if_pos rfl,he,List.length_cons]
  congr 1
  omega
theorem Y7l{tx:List TX}{tab:List (Int×Int)}{most lsn:Int}(hr:Qd tx)(hx:∀x∈tx,x.2.2.1<lsn/\x.2.2.2<lsn/\x.1<=most)(h0:0<=most)(hy:∀y∈tab,0<y.2/\y.2<lsn):∃d,Xz 0 lsn (C7 tx tab most) (An.zero true)=(none,⟨tx,most,d,false⟩):=by
 obtain⟨m2,hm2,h1⟩:=X7v most (tab.map Cc++[Y0c most]) tx [] lsn 0 (by rw[List.nil_append];exact hr) hx h0
 obtain⟨d',h2⟩:=Q8k [Y0c most] tx m2 tab [] (lsn+tx.length) (fun y h=>by obtain⟨g1,g2⟩:=hy y h;exact⟨g1,by omega⟩)
 refine⟨d',?_⟩
 unfold C7
 rw[h1,List.nil_append,h2,Xz]
 have hst:Xc 0 (lsn+tx.length+tab.length) (Y0c most) ⟨tx,m2,d',true⟩=(true,⟨tx,most,d',false⟩):=by
  unfold Xc
  rw[if_pos rfl]
  unfold J2
  rw[if_neg (by show ¬((10:Int)=8);omega),if_neg (by show ¬((10:Int)=9);omega),if_pos rfl]
  show(true,(⟨tx,max m2 most,d',false⟩:An))=_
  rw[Int.max_eq_right hm2]
 rw[hst,if_pos rfl,Xz]
def X7d(pages:Int)(r:Q9):Prop:=Qq r=true/\7<=r.kind/\(r.kind=9->r.page<=pages)
theorem X7d.wf{r:Q9}{L:List Q9}{lsn:Int}(h:X7d pages r):Cp pages L lsn r:=
 ⟨h.1,fun hk=>h.2.2 (by have:=h.2.1;omega),fun _ hk=>absurd hk (by have:=h.2.1;omega),fun hk=>absurd hk (by have:=h.2.1;omega),fun hk=>absurd hk (by have:=h.2.1;omega),fun hk=>absurd hk (by have:=h.2.1;omega)⟩
theorem Ok.many:∀(rs:List Q9) {A:Abs},Gy pages A->Live A A.tx->(∀r∈rs,X7d pages r)->Gy pages {A with L:=A.L++rs}/\Live {A with L:=A.L++rs} A.tx
 |[],A,hf,hv,_=>by rw[List.append_nil];exact⟨hf,hv⟩
 |r::rs,A,hf,hv,hr=>by
  have hk:=(hr r List.mem_cons_self).2.1
  have hv1:=hv.other (r:=r) hk
  have hf1:=hf.grow (r:=r) (hr r List.mem_cons_self).wf (fun h=>by omega) ⟨_,_,hv1.run,hv1.ck⟩
  have:=Ok.many rs (A:=A.grow r) hf1 hv1 (fun q hq=>hr q (List.mem_cons_of_mem _ hq))
  have he:(A.grow r).L++rs=A.L++r::rs:=by show A.L++[r]++rs=_;rw[List.append_assoc];rfl
  rw[he]at this
  exact this
theorem Q1w(hf:Gy pages A)(hv:Live A A.tx)(ha:Y8q A.tx)(hpg:pages<=32)(hL:A.L.length<=1000):∀r∈Vw A.tx A.tab A.most,X7d pages r:=fun r hr=>by
 have hm:=hf.most
 rcases List.mem_cons.1 hr with rfl|hr
 ·exact⟨rfl,by show(7:Int)<=7;omega,fun h=>absurd h (by show ¬((7:Int)=9);omega)⟩
 ·rcases List.mem_append.1 hr with hr|hr
  ·obtain⟨x,hx,rfl⟩:=List.mem_map.1 hr
   have h1:=hf.ids x hx
   have h2:=(hv.last x hx).range
   have h3:=(hf.txs x hx).range
   have h4:=ha x hx
   refine⟨Jq.2 ⟨⟨⟨⟨⟨⟨rfl,Ye (by show(1:Int)<=x.1;omega) (by show x.1<=60000;omega)⟩,rfl⟩,Ye (by show(0:Int)<=x.2.2.1;omega) (by show x.2.2.1<=1073741824;omega)⟩,Ye (by show(0:Int)<=x.2.2.2;omega) (by show x.2.2.2<=1073741824;omega)⟩,Ye (by show(0:Int)<=x.2.1;omega) (by show x.2.1<=2;omega)⟩,rfl⟩,by show(7:Int)<=8;omega,fun h=>absurd h (by show ¬((8:Int)=9);omega)⟩
  ·rcases List.mem_append.1 hr with hr|hr
   ·obtain⟨y,hy,rfl⟩:=List.mem_map.1 hr
    obtain⟨h1,h2,h3,h4⟩:=hf.tab y hy
    refine⟨Jq.2 ⟨⟨⟨⟨⟨⟨rfl,rfl⟩,Ye (by show(1:Int)<=y.1;omega) (by show y.1<=32;omega)⟩,Ye (by show(1:Int)<=y.2;omega) (by show y.2<=1073741824;omega)⟩,rfl⟩,rfl⟩,rfl⟩,by show(7:Int)<=9;omega,fun _=>h2⟩
   ·rw[List.mem_singleton]at hr
    subst hr
    exact⟨Jq.2 ⟨⟨⟨⟨⟨⟨rfl,rfl⟩,rfl⟩,rfl⟩,Ye (by show(0:Int)<=A.most;omega) (by show A.most<=60000;omega)⟩,rfl⟩,rfl⟩,by show(7:Int)<=10;omega,fun h=>absurd h (by show ¬((10:Int)=9);omega)⟩
theorem Ok.Xe(hf:Gy pages A)(hv:Live A A.tx)(ha:Y8q A.tx)(hpg:pages<=32)(hL:A.L.length<=1000):Ok pages cap {A with L:=A.L++Vw A.tx A.tab A.most,ck:=(A.L.length:Int)+1}:=by
 obtain⟨h1,h2⟩:=Ok.many (Vw A.tx A.tab A.most) hf hv (Q1w hf hv ha hpg hL)
 have hck:X0s (A.L++Vw A.tx A.tab A.most) ((A.L.length:Int)+1) A.tx A.most:=by
  obtain⟨d,hd⟩:=Y7l (tx:=A.tx) (tab:=A.tab) (most:=A.most) (lsn:=(A.L.length:Int)+1+1) hf.Je (fun x hx=>by have h2:=(hv.last x hx).range;have h3:=(hf.txs x hx).range;have:=hf.ids x hx;exact⟨by omega,by omega,this.2⟩) hf.most.1 (fun y hy=>by obtain⟨_,_,g3,g4⟩:=hf.tab y hy;exact⟨by omega,by omega⟩)
  have hat:Qx (A.L++Vw A.tx A.tab A.most) 0 ((A.L.length:Int)+1)=some Q5c:=by
   have:=E0 (Vi (L:=A.L) (r:=Q5c)) (C7 A.tx A.tab A.most)
   rw[List.append_assoc]at this
   exact this
  refine .inr ⟨Q5c,d,hat,rfl,?_⟩
  have hdr:(A.L++Vw A.tx A.tab A.most).drop ((A.L.length:Int)+1).toNat=C7 A.tx A.tab A.most:=by
   have h3:((A.L.length:Int)+1).toNat=A.L.length+1:=by omega
   rw[h3]
   have h4:A.L++Vw A.tx A.tab A.most=(A.L++[Q5c])++C7 A.tx A.tab A.most:=by rw[List.append_assoc];rfl
   rw[h4,List.drop_append_of_le_length (by rw[List.length_append];exact Nat.le_refl _),List.drop_eq_nil_of_le (by rw[List.length_append];exact Nat.le_refl _),List.nil_append]
  rw[hdr]
  exact hd
 exact⟨⟨h1.wf,h1.txs,h1.Je,h1.ids,h1.most,h1.pgs,h1.tab,h1.Q3x,⟨A.tx,A.most,h2.run,hck⟩⟩,.inr ⟨⟨h2.run,hck,h2.last,h2.X1,h2.own,h2.inj,h2.held,h2.low,h2.room⟩,ha⟩⟩
end
end Go.Proofs.YtoapihepdallbaaGreatDoor
