import Derived.Test.YtoapihepdallbaaGreatDoorP10
namespace Go.Proofs.YtoapihepdallbaaGreatDoor
open Go.RowKit
section
section
variable{R:Uv}{w w':World}{tb:Nat}{row:Option Nat}{l:List TX}{m:Int}
abbrev Uv.fld(R:Uv):Fld:=⟨#[R.lp],#[R.u],125⟩
theorem Jp.z(h:Jp R w tb row l m):Zs R.fld 1 w tb row l m:=by
 obtain⟨⟨v,hv,hc,ho⟩,ha,hr⟩:=h
 exact⟨⟨v,hv,⟨rfl,hc⟩,ho⟩,ha,hr⟩
theorem Zs.rr(h:Zs R.fld 1 w tb row l m):Jp R w tb row l m:=by
 obtain⟨⟨v,hv,⟨_,hc⟩,ho⟩,ha,hr⟩:=h
 exact⟨⟨v,hv,hc,ho⟩,ha,hr⟩
theorem Y4.rr(h:Y4 R.fld 1 tb row l m w w'):V5 R tb row l m w w':=by
 obtain⟨row',h1,h2,h3⟩:=h
 exact⟨row',h1.rr,h2,h3⟩
end
section
variable{Rd:Dy}{w w':World}{tb:Nat}{row:Option Nat}{l:List (Int×Int)}
abbrev Dy.fld(R:Dy):Fld:=⟨#[R.lp,R.vt,.int .i64 R.m],#[],125⟩
theorem Ec.z(h:Ec Rd w tb row l):Gm Rd.fld 3 w tb row l:=by
 obtain⟨⟨v,hv,hc,ho⟩,ha,hr⟩:=h
 exact⟨⟨v,hv,⟨rfl,hc⟩,ho⟩,ha,hr⟩
theorem Gm.rr(h:Gm Rd.fld 3 w tb row l):Ec Rd w tb row l:=by
 obtain⟨⟨v,hv,⟨_,hc⟩,ho⟩,ha,hr⟩:=h
 exact⟨⟨v,hv,hc,ho⟩,ha,hr⟩
theorem J5.rr(h:J5 Rd.fld 3 tb row l w w'):Dw Rd tb row l w w':=by
 obtain⟨row',h1,h2,h3⟩:=h
 exact⟨row',h1.rr,h2,h3⟩
end
theorem X5u{R:Uv}(w:World)(tb:Nat)(row:Option Nat)(l:List TX)(m p:Int)(h:Jp R w tb row l m):
  Calls Tryz.prog 81 #[.pointer (some ⟨tb,1,none⟩),.int .i64 p] w fun e w'=>e=.returned (.tuple #[])/\V5 R tb row l (max m p) w w':=
 (Q6a w tb row l m p h.z).mono fun _ _ ⟨h1,h2⟩=>⟨h1,h2.rr⟩
theorem X9z{R:Uv}(w:World)(tb:Nat)(row:Option Nat)(l:List TX)(m p:Int)(h:Jp R w tb row l m)(hlen:l.length<=1000000):
  Calls Tryz.prog 82 #[.pointer (some ⟨tb,1,none⟩),.int .i64 p] w fun e w'=>e=.returned (.tuple #[Gn (got l p),.bool (has l p)])/\Below w.heap.size w w':=Q8p w tb row l m p h.z hlen
theorem X2m{R:Uv}(w:World)(tb:Nat)(row:Option Nat)(l:List TX)(m p s:Int)(h:Jp R w tb row l m)(hlen:l.length<=1000000):
  Calls Tryz.prog 83 #[.pointer (some ⟨tb,1,none⟩),.int .i64 p,.int .i64 s] w fun e w'=>e=.returned (.bool (has l p))/\V5 R tb row (upd l p (fun y=>(s,y.2.1,y.2.2))) m w w':=
 (Q2p w tb row l m p s h.z hlen).mono fun _ _ ⟨h1,h2⟩=>⟨h1,h2.rr⟩
theorem X5t{R:Uv}(w:World)(tb:Nat)(row:Option Nat)(l:List TX)(m p a b:Int)(h:Jp R w tb row l m)(hlen:l.length<=1000000):
  Calls Tryz.prog 85 #[.pointer (some ⟨tb,1,none⟩),.int .i64 p,.int .i64 a,.int .i64 b] w fun e w'=>e=.returned (.bool (has l p))/\V5 R tb row (upd l p (fun y=>(y.1,a,b))) m w w':=
 (Q5z w tb row l m p a b h.z hlen).mono fun _ _ ⟨h1,h2⟩=>⟨h1,h2.rr⟩
theorem X5s{R:Uv}(w:World)(tb:Nat)(row:Option Nat)(l:List TX)(m p:Int)(h:Jp R w tb row l m)(hlen:l.length<=1000000):
  Calls Tryz.prog 84 #[.pointer (some ⟨tb,1,none⟩),.int .i64 p] w fun e w'=>e=.returned (.bool (has l p))/\V5 R tb row (X4 l p) m w w':=
 (Ck w tb row l m p h.z hlen).mono fun _ _ ⟨h1,h2⟩=>⟨h1,h2.rr⟩
theorem X9y{R:Uv}(w:World)(tb:Nat)(row:Option Nat)(l:List TX)(m:Int)(x:TX)(h:Jp R w tb row l m)(hlen:l.length<=1000000):
  Calls Tryz.prog 79 #[.pointer (some ⟨tb,1,none⟩),Gn x] w fun e w'=>e=.returned (.tuple #[])/\V5 R tb row (Qt l x) (max m x.1) w w':=
 (Q8o w tb row l m x h.z hlen).mono fun _ _ ⟨h1,h2⟩=>⟨h1,h2.rr⟩
theorem Y2t{Rd:Dy}(w:World)(tb:Nat)(row:Option Nat)(l:List (Int×Int))(p f:Int)(h:Ec Rd w tb row l)(hlen:l.length<=1000000):
  Calls Tryz.prog 80 #[.pointer (some ⟨tb,3,none⟩),.int .i64 p,.int .i64 f] w fun e w'=>e=.returned (.tuple #[])/\Dw Rd tb row (add l (p,f)) w w':=
 (X4b w tb row l p f h.z hlen).mono fun _ _ ⟨h1,h2⟩=>⟨h1,h2.rr⟩
end
set_option maxRecDepth 4000 in
set_option maxHeartbeats 2000000 in
theorem E3(w:World)(lb:Nat)(row:Option Nat)(L:List Q9)(bs lsn:Int)(h:G4 w lb row L bs)(hlen:L.length<=1000000)(h0:0<=bs)(h1:bs<=1000000):
  Calls Tryz.prog 37 #[.pointer (some ⟨lb,0,none⟩),.int .i64 lsn] w fun e w'=>e=.returned (.tuple #[Yg ((Qx L bs lsn).getD Z9),.bool (Qx L bs lsn).isSome])/\Below w.heap.size w w':=by
 have HB1:Sc (Below w.heap.size w (w.alloc (.cells (Qe Z9) 49))):=⟨Q3 (Below.refl _ _) _⟩
 have HL1:=Q0 (h.bel HB1.o)
 have HZ1:=Q0 (heap_alloc_new w (.cells (Qe Z9) 49))
 obtain⟨w1,hw1⟩:∃w1,w.alloc (.cells (Qe Z9) 49)=w1:=⟨_,rfl⟩
 rw[hw1]at HB1 HL1 HZ1
 obtain⟨⟨dp,A,s,c,hv,hc,hown⟩,hap⟩:=HL1.o
 have HC:=Q0 hc
 have HO:=Q0 hown
 obtain⟨c2,c3,c5⟩:=Xy hc
 have hs:=hown.len
 have ha:w.heap.size<=w.heap.size:=Nat.le_refl _
 have lc:=Q6 hc
 clear hv hc hown hap h
 by_cases hlo:lsn<=bs
 ·have hd:decide (lsn<=bs)=true:=decide_eq_true hlo
  have HR:Sc (Qx L bs lsn=none):=⟨Ge (.inl hlo)⟩
  rw[HR.o]
  obtain⟨q0,q1,q2,q3,q4,q5,q6,q7,q8,q9⟩:=Qb HZ1.o
  obtain⟨z0,z1,z2,z3,z4,z5,z6,z7,z8,z9⟩:=Zg HZ1.o
  have lz:=Q6 HZ1.o
  clear hlo
  go_enter Tryz.func37,Tryz.ntmps37
  go_wp2
  refine bodyPost_ret (v:=.tuple #[Yg Z9,.bool false]) (by simp[results,Tryz.results37,go_sem,q0,q1,q2,q3,q4,q5,q6,q7,q8,q9]) rfl ⟨rfl,?_⟩
  exact Xp HB1.o ha
 ·have hd:decide (lsn<=bs)=false:=decide_eq_false hlo
  by_cases hhi:bs+(L.length:Int)<lsn
  ·have HR:Sc (Qx L bs lsn=none):=⟨Ge (.inr hhi)⟩
   rw[HR.o]
   clear hlo
   go_enter Tryz.func37,Tryz.ntmps37
   go_wp2_with fail
   clear hw1
   refine(Vl _ lb row L bs HL1.o hlen h0 h1).mono ?_
   rintro e w2 ⟨rfl,hb⟩
   have HB2:Sc (Below w.heap.size w w2):=⟨Q5 HB1.o hb⟩
   have hz:=up hb HZ1.o
   obtain⟨q0,q1,q2,q3,q4,q5,q6,q7,q8,q9⟩:=Qb hz
   obtain⟨z0,z1,z2,z3,z4,z5,z6,z7,z8,z9⟩:=Zg hz
   have lz:=Q6 hz
   clear hb hz
   go_wp2
   refine bodyPost_ret (v:=.tuple #[Yg Z9,.bool false]) (by simp[results,Tryz.results37,go_sem,q0,q1,q2,q3,q4,q5,q6,q7,q8,q9]) rfl ⟨rfl,?_⟩
   exact Xp HB2.o ha
  ·obtain⟨i,hi⟩:∃i:Nat,lsn=bs+1+i:=⟨(lsn - bs - 1).toNat,by omega⟩
   have hil:i<L.length:=by omega
   obtain⟨r,hr⟩:∃r,L[i]? =some r:=⟨_,List.getElem?_eq_getElem hil⟩
   have HR:Sc (Qx L bs lsn=some r):=⟨by rw[Gr hi hil,hr]⟩
   rw[HR.o]
   have hd2:¬bs+(L.length:Int)<lsn:=hhi
   have hw1':IntKind.i64.wrap (lsn - bs)=lsn - bs:=IntWalk.i64_in _ ⟨by omega,by omega⟩
   have hw2':IntKind.i64.wrap (lsn - bs - 1)=(i:Int):=by rw[IntWalk.i64_in _ ⟨by omega,by omega⟩];omega
   have his:(i:Int)<s:=by omega
   obtain⟨g,cq,he,_,_,_,_⟩:=HO.o.form (by omega)
   injection he with hA hK hCC
   subst hA
   have HRR:=Q0 hr
   clear hlo hhi hi hr hK hCC hs
   go_enter Tryz.func37,Tryz.ntmps37
   go_wp2_with fail
   clear hw1
   refine(Vl _ lb row L bs HL1.o hlen h0 h1).mono ?_
   rintro e w2 ⟨rfl,hb⟩
   have HB2:Sc (Below w.heap.size w w2):=⟨Q5 HB1.o hb⟩
   have hz:=up hb HZ1.o
   obtain⟨q0,q1,q2,q3,q4,q5,q6,q7,q8,q9⟩:=Qb hz
   obtain⟨z0,z1,z2,z3,z4,z5,z6,z7,z8,z9⟩:=Zg hz
   have lz:=Q6 hz
   obtain⟨e0,e1,e2,e3,e4,e5,e6,e7,e8,e9⟩:=(HO.o.below hb).Qe HRR.o
   obtain⟨d2,d3,d5⟩:=Xy (up hb HC.o)
   clear hb hz c2 c3 c5
   go_wp2_with fail
   go_region
   all_goals
    go_wp2
    refine bodyPost_ret (v:=.tuple #[Yg r,.bool true]) (by simp[results,Tryz.results37,go_sem,q0,q1,q2,q3,q4,q5,q6,q7,q8,q9]) rfl ⟨rfl,?_⟩
    first|exact X0 (Xp HB2.o ha) 1|exact Xp HB2.o ha|exact(Xp HB2.o ha).drew|exact Xp HB2.o.drew ha
section
abbrev Mov(rt rt':Option Nat)(n:Nat):Prop:=∀q,rt'=some q->rt=some q\/n<=q
theorem Mov.of{rt rt':Option Nat}{n:Nat}(h:rt'=rt\/∀q,rt'=some q->n<=q):Mov rt rt' n:=fun q hq=>h.elim (fun e=> .inl (e.symm.trans hq)) (fun h=> .inr (h q hq))
theorem Mov.refl(rt:Option Nat)(n:Nat):Mov rt rt n:=fun _ hq=> .inl hq
theorem Mov.trans{a b c:Option Nat}{n m:Nat}(h:Mov a b n)(h':Mov b c m)(hn:n<=m):Mov a c n:=fun q hq=>(h' q hq).elim (h q) (fun h=> .inr (Nat.le_trans hn h))
theorem Mov.mono{a b:Option Nat}{n m:Nat}(h:Mov a b m)(hn:n<=m):Mov a b n:=fun q hq=>(h q hq).imp id (Nat.le_trans hn)
structure Z2(B:Nat)(w:World)(fb lb:Nat)(rt rd:Option Nat)(s:An):Prop where
 val:∃vt vd:Value,vt.ownBlock=rt/\vd.ownBlock=rd/\w.heap[fb]? =some (.cells #[.pointer (some ⟨lb,0,none⟩),vt,.int .i64 s.m,vd] 125 (0,0))/\Own Qg 4 58 0 w vt s.t/\Own Qj 2 60 0 w vd s.d
 at_:rt≠some fb
 ad:rd≠some fb
 diff:∀q,rt=some q->rd≠some q
 rising:Qd s.t
 Y5v:Qd s.d
 X5n:B<=fb
 Y5k:∀q,rt=some q->B<=q
 Y5j:∀q,rd=some q->B<=q
def Y0(B fb lb:Nat)(rt rd:Option Nat)(s:An)(w w':World):Prop:=
 ∃rt' rd',Z2 B w' fb lb rt' rd' s/\Kp (fun q=>q=fb\/some q=rt\/some q=rd) w w'/\Mov rt rt' w.heap.size/\Mov rd rd' w.heap.size
section
variable{B fb lb:Nat}{w w' w'':World}{rt rd:Option Nat}{s s':An}
theorem Z2.lt(h:Z2 B w fb lb rt rd s):fb<w.heap.size:=by obtain⟨⟨_,_,_,_,hc,_⟩,_⟩:=h;exact Q6 hc
theorem Z2.Gt(h:Z2 B w fb lb rt rd s):(∀q,rt=some q->q<w.heap.size)/\∀q,rd=some q->q<w.heap.size:=by
 obtain⟨⟨vt,vd,h1,h2,_,h3,h4⟩,_⟩:=h
 exact⟨fun q hq=>(h3.lt q (by rw[h1];exact hq)).2,fun q hq=>(h4.lt q (by rw[h2];exact hq)).2⟩
theorem Z2.kp{S:Nat->Prop}(h:Z2 B w fb lb rt rd s)(k:Kp S w w')(h1:¬S fb)(h2:∀q,rt=some q->¬S q)(h3:∀q,rd=some q->¬S q):Z2 B w' fb lb rt rd s:=by
 obtain⟨⟨vt,vd,e1,e2,hc,e3,e4⟩,a,b,c,d,e,f,g,i⟩:=h
 exact⟨⟨vt,vd,e1,e2,k.at hc h1,e3.kp k (fun q hq=>h2 q (by rw[<-e1];exact hq)),e4.kp k (fun q hq=>h3 q (by rw[<-e2];exact hq))⟩,a,b,c,d,e,f,g,i⟩
theorem Z2.bel(h:Z2 B w fb lb rt rd s)(hb:Below w.heap.size w w'):Z2 B w' fb lb rt rd s:=by
 obtain⟨⟨vt,vd,h1,h2,hc,h3,h4⟩,a,b,c,d,e,f,g,i⟩:=h
 exact⟨⟨vt,vd,h1,h2,up hb hc,h3.below hb,h4.below hb⟩,a,b,c,d,e,f,g,i⟩
theorem Z2.drew(h:Z2 B w fb lb rt rd s):Z2 B w.drew fb lb rt rd s:=by
 obtain⟨⟨vt,vd,h1,h2,hc,h3,h4⟩,a,b,c,d,e,f,g,i⟩:=h
 exact⟨⟨vt,vd,h1,h2,hc,h3.drew,h4.drew⟩,a,b,c,d,e,f,g,i⟩
theorem Z2.cells(h:Z2 B w fb lb rt rd s):w.cell? ⟨fb,0,none⟩=some (.pointer (some ⟨lb,0,none⟩)):=by
 obtain⟨⟨vt,vd,h1,h2,hc,h3,h4⟩,_⟩:=h
 simp[World.cell?,hc]
theorem Z2.Y3r(h:Z2 B w fb lb rt rd s):∃R,Jp R w fb rt s.t s.m:=by
 obtain⟨⟨vt,vd,h1,h2,hc,h3,h4⟩,a,b,c,d,e,f,g,i⟩:=h
 exact⟨⟨.pointer (some ⟨lb,0,none⟩),vd⟩,⟨vt,h1,hc,h3⟩,a,d⟩
theorem Z2.fresh(h:Z2 B w fb lb rt rd s):w.heap.size≠fb/\rt≠some w.heap.size/\rd≠some w.heap.size:=
 ⟨by have:=h.lt;omega,fun he=>by have:=h.Gt.1 _ he;omega,fun he=>by have:=h.Gt.2 _ he;omega⟩
theorem Y0.same(h:Z2 B w fb lb rt rd s)(hb:Below w.heap.size w w'):Y0 B fb lb rt rd s w w':=⟨rt,rd,h.bel hb,Kp.Qi hb _,Mov.refl _ _,Mov.refl _ _⟩
theorem Y0.trans{rt' rd':Option Nat}(hk:Kp (fun q=>q=fb\/some q=rt\/some q=rd) w w')(ht:Mov rt rt' w.heap.size)(hd:Mov rd rd' w.heap.size)(h:Y0 B fb lb rt' rd' s' w' w''):Y0 B fb lb rt rd s' w w'':=by
 obtain⟨rt2,rd2,hf,hk2,ht2,hd2⟩:=h
 refine⟨rt2,rd2,hf,hk.trans hk2 (fun q hq=> ?_),ht.trans ht2 hk.size,hd.trans hd2 hk.size⟩
 rcases hq with hq|hq|hq
 ·exact .inl (.inl hq)
 ·rcases ht q hq.symm with h|h
  ·exact .inl (.inr (.inl h.symm))
  ·exact .inr h
 ·rcases hd q hq.symm with h|h
  ·exact .inl (.inr (.inr h.symm))
  ·exact .inr h
theorem Y0.from_{w0:World}(h:Y0 B fb lb rt rd s w w')(hb:Below w0.heap.size w0 w):Y0 B fb lb rt rd s w0 w':=by
 obtain⟨rt2,rd2,hf,hk,ht,hd⟩:=h
 exact⟨rt2,rd2,hf,(Kp.Qi hb _).trans hk (fun _ h=> .inl h),ht.mono hb.size,hd.mono hb.size⟩
theorem Y0.below(h:Y0 B fb lb rt rd s' w w')(hf:Z2 B w fb lb rt rd s):Below B w w':=by
 obtain⟨_,_,_,hk,_,_⟩:=h
 refine hk.below (Nat.le_trans hf.X5n (Nat.le_of_lt hf.lt)) (fun q hq=> ?_)
 rcases hq with hq|hq|hq
 ·rw[hq];exact hf.X5n
 ·exact hf.Y5k q hq.symm
 ·exact hf.Y5j q hq.symm
theorem Y0.at_{b:Nat}{o:Obj}(h:Y0 B fb lb rt rd s' w w')(hb:w.heap[b]? =some o)(hn:b≠fb/\rt≠some b/\rd≠some b):w'.heap[b]? =some o:=by
 obtain⟨_,_,_,hk,_,_⟩:=h
 exact hk.at hb (fun h=>h.elim hn.1 (fun h=>h.elim (fun h=>hn.2.1 h.symm) (fun h=>hn.2.2 h.symm)))
theorem Y0.Um{b:Nat}(h:Y0 B fb lb rt rd s' w w')(hb:b<w.heap.size)(hn:b≠fb/\rt≠some b/\rd≠some b):
  ∃rt' rd',Z2 B w' fb lb rt' rd' s'/\Kp (fun q=>q=fb\/some q=rt\/some q=rd) w w'/\Mov rt rt' w.heap.size/\Mov rd rd' w.heap.size/\b≠fb/\rt'≠some b/\rd'≠some b:=by
 obtain⟨rt',rd',hf,hk,ht,hd⟩:=h
 refine⟨rt',rd',hf,hk,ht,hd,hn.1,fun he=> ?_,fun he=> ?_⟩
 ·rcases ht _ he with h|h
  ·exact hn.2.1 h
  ·omega
 ·rcases hd _ he with h|h
  ·exact hn.2.2 h
  ·omega
theorem Z2.ofT{t':List TX}{m':Int}{vt vd:Value}(h:Z2 B w fb lb rt rd s)(h2:vd.ownBlock=rd)(hc:w.heap[fb]? =some (.cells #[.pointer (some ⟨lb,0,none⟩),vt,.int .i64 s.m,vd] 125 (0,0)))(h4:Own Qj 2 60 0 w vd s.d)(hl:V5 ⟨.pointer (some ⟨lb,0,none⟩),vd⟩ fb rt t' m' w w'):Y0 B fb lb rt rd {s with t:=t',m:=m'} w w':=by
 obtain⟨_,a,b,c,d,e,f,g,i⟩:=h
 obtain⟨rt',⟨⟨vt',h1',hc',h3'⟩,a',d'⟩,hk,hat⟩:=hl
 have hdl:∀q,rd=some q->q<w.heap.size:=fun q hq=>(h4.lt q (by rw[h2];exact hq)).2
 have hm:Mov rt rt' w.heap.size:=Mov.of hat
 have hf:=Q6 hc
 refine⟨rt',rd,⟨⟨vt',vd,h1',h2,hc',h3',h4.kp hk (fun q hq he=> ?_)⟩,a',b,fun q hq he=> ?_,d',e,f,fun q hq=> ?_,i⟩,hk.mono (fun q hq=>hq.elim .inl (fun h=> .inr (.inl h))),hm,Mov.refl _ _⟩
 ·rw[h2]at hq
  rcases he with he|he
  ·exact b (by rw[hq,he])
  ·exact c q he.symm hq
 ·rcases hm q hq with h|h
  ·exact c q h he
  ·have:=hdl q he;omega
 ·rcases hm q hq with h|h
  ·exact g q h
  ·omega
theorem Z2.ofD{d':List (Int×Int)}{vt vd:Value}(h:Z2 B w fb lb rt rd s)(h1:vt.ownBlock=rt)(hc:w.heap[fb]? =some (.cells #[.pointer (some ⟨lb,0,none⟩),vt,.int .i64 s.m,vd] 125 (0,0)))(h3:Own Qg 4 58 0 w vt s.t)(hl:Dw ⟨.pointer (some ⟨lb,0,none⟩),vt,s.m⟩ fb rd d' w w'):Y0 B fb lb rt rd {s with d:=d'} w w':=by
 obtain⟨_,a,b,c,d,e,f,g,i⟩:=h
 obtain⟨rd',⟨⟨vd',h2',hc',h4'⟩,b',e'⟩,hk,hat⟩:=hl
 have htl:∀q,rt=some q->q<w.heap.size:=fun q hq=>(h3.lt q (by rw[h1];exact hq)).2
 have hm:Mov rd rd' w.heap.size:=Mov.of hat
 have hf:=Q6 hc
 refine⟨rt,rd',⟨⟨vt,vd',h1,h2',hc',h3.kp hk (fun q hq he=> ?_),h4'⟩,a,b',fun q hq he=> ?_,d,e',f,g,fun q hq=> ?_⟩,hk.mono (fun q hq=>hq.elim .inl (fun h=> .inr (.inr h))),Mov.refl _ _,hm⟩
 ·rw[h1]at hq
  rcases he with he|he
  ·exact a (by rw[hq,he])
  ·exact c q hq he.symm
 ·rcases hm q he with h|h
  ·exact c q hq h
  ·have:=htl q hq;omega
 ·rcases hm q hq with h|h
  ·exact i q h
  ·omega
end
variable{B fb lb:Nat}{rt rd:Option Nat}{s:An}
theorem X2w(w:World)(x:TX)(h:Z2 B w fb lb rt rd s)(hlen:s.t.length<=1000000):
  Calls Tryz.prog 79 #[.pointer (some ⟨fb,1,none⟩),Gn x] w fun e w'=>e=.returned (.tuple #[])/\Y0 B fb lb rt rd {s with t:=Qt s.t x,m:=max s.m x.1} w w':=by
 obtain⟨⟨vt,vd,h1,h2,hc,h3,h4⟩,a,b,c,d,e,f,g,i⟩:=id h
 exact(X9y (R:=⟨.pointer (some ⟨lb,0,none⟩),vd⟩) w fb rt s.t s.m x ⟨⟨vt,h1,hc,h3⟩,a,d⟩ hlen).mono fun e w' ⟨he,hl⟩=>⟨he,h.ofT h2 hc h4 hl⟩
theorem Y2x(w:World)(p:Int)(h:Z2 B w fb lb rt rd s):
  Calls Tryz.prog 81 #[.pointer (some ⟨fb,1,none⟩),.int .i64 p] w fun e w'=>e=.returned (.tuple #[])/\Y0 B fb lb rt rd {s with m:=max s.m p} w w':=by
 obtain⟨⟨vt,vd,h1,h2,hc,h3,h4⟩,a,b,c,d,e,f,g,i⟩:=id h
 exact(X5u (R:=⟨.pointer (some ⟨lb,0,none⟩),vd⟩) w fb rt s.t s.m p ⟨⟨vt,h1,hc,h3⟩,a,d⟩).mono fun e w' ⟨he,hl⟩=>⟨he,h.ofT h2 hc h4 hl⟩
theorem Y2w(w:World)(p:Int)(h:Z2 B w fb lb rt rd s)(hlen:s.t.length<=1000000):
  Calls Tryz.prog 84 #[.pointer (some ⟨fb,1,none⟩),.int .i64 p] w fun e w'=>e=.returned (.bool (has s.t p))/\Y0 B fb lb rt rd {s with t:=X4 s.t p} w w':=by
 obtain⟨⟨vt,vd,h1,h2,hc,h3,h4⟩,a,b,c,d,e,f,g,i⟩:=id h
 exact(X5s (R:=⟨.pointer (some ⟨lb,0,none⟩),vd⟩) w fb rt s.t s.m p ⟨⟨vt,h1,hc,h3⟩,a,d⟩ hlen).mono fun e w' ⟨he,hl⟩=>⟨he,h.ofT h2 hc h4 hl⟩
theorem Q8i(w:World)(p z:Int)(h:Z2 B w fb lb rt rd s)(hlen:s.t.length<=1000000):
  Calls Tryz.prog 83 #[.pointer (some ⟨fb,1,none⟩),.int .i64 p,.int .i64 z] w fun e w'=>e=.returned (.bool (has s.t p))/\Y0 B fb lb rt rd {s with t:=upd s.t p (fun y=>(z,y.2.1,y.2.2))} w w':=by
 obtain⟨⟨vt,vd,h1,h2,hc,h3,h4⟩,a,b,c,d,e,f,g,i⟩:=id h
 exact(X2m (R:=⟨.pointer (some ⟨lb,0,none⟩),vd⟩) w fb rt s.t s.m p z ⟨⟨vt,h1,hc,h3⟩,a,d⟩ hlen).mono fun e w' ⟨he,hl⟩=>⟨he,h.ofT h2 hc h4 hl⟩
theorem Q0o(w:World)(p y z:Int)(h:Z2 B w fb lb rt rd s)(hlen:s.t.length<=1000000):
  Calls Tryz.prog 85 #[.pointer (some ⟨fb,1,none⟩),.int .i64 p,.int .i64 y,.int .i64 z] w fun e w'=>e=.returned (.bool (has s.t p))/\Y0 B fb lb rt rd {s with t:=upd s.t p (fun x=>(x.1,y,z))} w w':=by
 obtain⟨⟨vt,vd,h1,h2,hc,h3,h4⟩,a,b,c,d,e,f,g,i⟩:=id h
 exact(X5t (R:=⟨.pointer (some ⟨lb,0,none⟩),vd⟩) w fb rt s.t s.m p y z ⟨⟨vt,h1,hc,h3⟩,a,d⟩ hlen).mono fun e w' ⟨he,hl⟩=>⟨he,h.ofT h2 hc h4 hl⟩
theorem Y5s(w:World)(p:Int)(h:Z2 B w fb lb rt rd s)(hlen:s.t.length<=1000000):
  Calls Tryz.prog 82 #[.pointer (some ⟨fb,1,none⟩),.int .i64 p] w fun e w'=>e=.returned (.tuple #[Gn (got s.t p),.bool (has s.t p)])/\Below w.heap.size w w':=by
 obtain⟨R,hR⟩:=h.Y3r
 exact X9z (R:=R) w fb rt s.t s.m p hR hlen
theorem Q5e(w:World)(p q:Int)(h:Z2 B w fb lb rt rd s)(hlen:s.d.length<=1000000):
  Calls Tryz.prog 80 #[.pointer (some ⟨fb,3,none⟩),.int .i64 p,.int .i64 q] w fun e w'=>e=.returned (.tuple #[])/\Y0 B fb lb rt rd {s with d:=add s.d (p,q)} w w':=by
 obtain⟨⟨vt,vd,h1,h2,hc,h3,h4⟩,a,b,c,d,e,f,g,i⟩:=id h
 exact(Y2t (Rd:=⟨.pointer (some ⟨lb,0,none⟩),vt,s.m⟩) w fb rd s.d p q ⟨⟨vd,h2,hc,h4⟩,b,e⟩ hlen).mono fun e w' ⟨he,hl⟩=>⟨he,h.ofD h1 hc h3 hl⟩
theorem Z2.new(w:World)(lb:Nat)(h:B<=w.heap.size)(i:Bool):Z2 B (w.alloc (.cells #[.pointer (some ⟨lb,0,none⟩),.slice none 0 0,.int .i64 0,.slice none 0 0] 125)) w.heap.size lb none none (An.zero i):=
 ⟨⟨.slice none 0 0,.slice none 0 0,rfl,rfl,heap_alloc_new w _,Own.nil,Own.nil⟩,fun h=>by simp at h,fun h=>by simp at h,fun _ h=>by simp at h,List.Pairwise.nil,List.Pairwise.nil,h,fun _ h=>by simp at h,fun _ h=>by simp at h⟩
end
section
def Seen(s:An):Prop:=∀x∈s.t,x.1<=s.m
theorem X5j{β:Type}{l:List (Int×β)}{x y:Int×β}(h:y∈Qt l x):y=x\/y∈l:=by
 unfold Qt at h
 split at h
 ·rcases List.mem_or_eq_of_mem_set h with h|h
  ·exact .inr h
  ·exact .inl h
 ·exact Q0h.1 h
theorem X9l{β:Type}{l:List (Int×β)}{k:Int}{y:Int×β}(h:y∈X4 l k):y∈l:=by
 unfold X4 at h
 split at h
 ·unfold cut at h
  rcases List.mem_append.1 h with h|h
  ·exact List.mem_of_mem_take h
  ·exact List.mem_of_mem_drop h
 ·exact h
theorem E5{s:An}(h:Seen s)(x:TX)(d:List (Int×Int)):Seen {s with t:=Qt s.t x,m:=max s.m x.1,d:=d}:=fun y hy=>by
 show y.1<=max s.m x.1
 rcases X5j hy with rfl|hy
 ·omega
 ·have:=h y hy;omega
theorem X6i(bs lsn:Int)(r:Q9){s:An}(h:Seen s):Seen (J2 bs lsn r s).2:=by
 unfold J2
 split
 ·exact E5 h (r.txn,r.key,r.prev,r.next) s.d
 split
 ·exact h
 split
 ·exact fun y hy=>by show y.1<=max s.m r.next;have:=h y hy;omega
 ·exact h
theorem X6j(lsn:Int)(r:Q9){s:An}(h:Seen s):Seen (Yu lsn r s).2:=by
 unfold Yu
 split
 ·exact E5 h (r.txn,0,lsn,0) s.d
 split
 ·exact h
 split
 ·exact fun y hy=>h y (X9l hy)
 ·exact E5 h (Yt lsn r (got s.t r.txn)) _
theorem X6k(bs lsn:Int)(r:Q9){s:An}(h:Seen s):Seen (Xc bs lsn r s).2:=by
 unfold Xc
 split
 ·exact X6i bs lsn r h
 split
 ·exact h
 ·exact X6j lsn r h
theorem Q8l(i:Bool):Seen (An.zero i):=fun x hx=>by cases hx
theorem X9h{β:Type}{l m:List (Int×β)}(h:m.map (·.1)=l.map (·.1))(k:Int):pos m k=pos l k/\has m k=has l k:=by
 have hp:∀q:List (Int×β),pos q k=(q.map (·.1)).countP fun x=>decide (x<k):=fun q=>by unfold pos;rw[List.countP_map];rfl
 have hh:∀q:List (Int×β),has q k=(q.map (·.1)).any fun x=>decide (x=k):=fun q=>by unfold has;rw[List.any_map];rfl
 rw[hp,hp,hh,hh,h]
 exact⟨rfl,rfl⟩
theorem X5d{l:List TX}(hr:Qd l){p:Int}(h:has l p=true):l[pos l p]? =some (got l p)/\(got l p).1=p:=by
 obtain⟨x,hx,hk⟩:=(Zq hr p).1 h
 have:got l p=x:=by unfold got;rw[if_pos h,hx];rfl
 rw[this]
 exact⟨hx,hk⟩
theorem Y6e{l:List TX}(hr:Qd l){p:Int}(h:has l p=true)(f:Int×Int×Int->Int×Int×Int):upd l p f=Qt l ((got l p).1,f (got l p).2):=by
 obtain⟨hx,hk⟩:=X5d hr h
 rw[Za f h hx,Vm (by show has l (got l p).1=true;rw[hk];exact h)]
 show _=l.set (pos l (got l p).1) _
 rw[hk]
theorem Y0v{l:List TX}(hr:Qd l){p:Int}(h:has l p=true)(f g:Int×Int×Int->Int×Int×Int):upd (upd l p f) p g=upd l p (fun y=>g (f y)):=by
 obtain⟨hx,hk⟩:=X5d hr h
 obtain⟨hlt,_⟩:=List.getElem?_eq_some_iff.1 hx
 have hu:=Za f h hx
 obtain⟨e1,e2⟩:=X9h (l:=l) (m:=upd l p f) (by rw[hu];exact Er hx rfl) p
 have hx2:(upd l p f)[pos (upd l p f) p]? =some ((got l p).1,f (got l p).2):=by
  rw[e1,hu,List.getElem?_set,if_pos rfl,if_pos hlt]
 rw[Za g (by rw[e2];exact h) hx2,e1,hu,List.set_set,Za (fun y=>g (f y)) h hx]
theorem Y2o{s:An}(h:Seen s)(hr:Qd s.t){p:Int}(hp:has s.t p=true):max s.m (got s.t p).1=s.m:=by
 have:=h _ (List.mem_of_getElem? (X5d hr hp).1);omega
variable{s:An}{r:Q9}{lsn:Int}
theorem Q9r(hr:Qd s.t)(hs:Seen s)(h:has s.t r.txn=true)(f:Int×Int×Int->Int×Int×Int)(hf:Yt lsn r (got s.t r.txn)=((got s.t r.txn).1,f (got s.t r.txn).2))(d:List (Int×Int)):
  ({s with t:=upd s.t r.txn f,d:=d}:An)={s with t:=Qt s.t (Yt lsn r (got s.t r.txn)),m:=max s.m (got s.t r.txn).1,d:=d}:=by
 rw[Y6e hr h f,hf,Y2o hs hr h]
theorem X3d(h1:r.kind=1):Yu lsn r s=(!has s.t r.txn,{s with t:=Qt s.t (r.txn,0,lsn,0),m:=max s.m r.txn}):=by unfold Yu;rw[if_pos h1]
theorem X3e(h1:r.kind≠1)(h:has s.t r.txn=false\/r.prev≠(got s.t r.txn).2.2.1):Yu lsn r s=(false,s):=by unfold Yu;rw[if_neg h1,if_pos h]
theorem Y0k(h6:r.kind=6)(h:¬(has s.t r.txn=false\/r.prev≠(got s.t r.txn).2.2.1)):Yu lsn r s=(true,{s with t:=X4 s.t r.txn}):=by unfold Yu;rw[if_neg (by omega),if_neg h,if_pos h6]
theorem Y0l(hr:Qd s.t)(hs:Seen s)(h2:r.kind=2)(h:¬(has s.t r.txn=false\/r.prev≠(got s.t r.txn).2.2.1)):Yu lsn r s=((got s.t r.txn).2.1==0,{s with t:=upd s.t r.txn (fun y=>(y.1,lsn,lsn)),d:=add s.d (r.page,lsn)}):=by
 have hh:has s.t r.txn=true:=by cases hx:has s.t r.txn with|true=>rfl|false=>exact absurd (.inl hx) h
 rw[Q9r (lsn:=lsn) hr hs hh _ (by simp[Yt,h2]) (add s.d (r.page,lsn))]
 unfold Yu;rw[if_neg (by omega),if_neg h,if_neg (by omega),if_neg (by omega),if_pos (.inl h2)]
 rfl
theorem Y0j(hr:Qd s.t)(hs:Seen s)(h2:r.kind=3)(h:¬(has s.t r.txn=false\/r.prev≠(got s.t r.txn).2.2.1)):Yu lsn r s=(decide ((got s.t r.txn).2.1≠1)&&decide (r.next<lsn),{s with t:=upd s.t r.txn (fun y=>(y.1,lsn,r.next)),d:=add s.d (r.page,lsn)}):=by
 have hh:has s.t r.txn=true:=by cases hx:has s.t r.txn with|true=>rfl|false=>exact absurd (.inl hx) h
 rw[Q9r (lsn:=lsn) hr hs hh _ (by simp[Yt,h2]) (add s.d (r.page,lsn))]
 unfold Yu;rw[if_neg (by omega),if_neg h,if_neg (by omega),if_pos h2,if_pos (.inr h2)]
theorem Q2m(hr:Qd s.t)(hs:Seen s)(z:Int)(h2:r.kind=4/\z=1\/r.kind=5/\z=2)(h:¬(has s.t r.txn=false\/r.prev≠(got s.t r.txn).2.2.1)):Yu lsn r s=((got s.t r.txn).2.1==0,{s with t:=upd (upd s.t r.txn (fun y=>(z,y.2.1,y.2.2))) r.txn (fun y=>(y.1,lsn,(got s.t r.txn).2.2.2))}):=by
 have hh:has s.t r.txn=true:=by cases hx:has s.t r.txn with|true=>rfl|false=>exact absurd (.inl hx) h
 rw[Y0v hr hh,Q9r (lsn:=lsn) hr hs hh _ (by rcases h2 with ⟨h2,rfl⟩|⟨h2,rfl⟩<;>simp[Yt,h2]) s.d]
 unfold Yu;rw[if_neg (by omega),if_neg h,if_neg (by omega),if_neg (by omega),if_neg (by omega)]
 rfl
end
section
variable{B fb lb:Nat}{rt rd:Option Nat}{s:An}
set_option maxRecDepth 4000 in
set_option maxHeartbeats 4000000 in
theorem Y5t(w:World)(bs lsn:Int)(r:Q9)(h:Z2 B w fb lb rt rd s)(hsn:Seen s)(hins:s.ins=false)(hk1:1<=r.kind)(ht:s.t.length<=1000000)(hd:s.d.length<=1000000):
  Calls Tryz.prog 40 #[.pointer (some ⟨fb,0,none⟩),.int .i64 lsn,Yg r] w fun e w'=>e=.returned (.bool (Xc bs lsn r s).1)/\Y0 B fb lb rt rd (Xc bs lsn r s).2 w w':=by
 obtain⟨ok,hok⟩:∃ok,(Xc bs lsn r s).1=ok:=⟨_,rfl⟩
 obtain⟨s',hs'⟩:∃s',(Xc bs lsn r s).2=s':=⟨_,rfl⟩
 rw[hok,hs']
 have HOK:Sc (Xc bs lsn r s=(ok,s')):=⟨by rw[<-hok,<-hs']⟩
 have HB1:Sc (Below w.heap.size w (w.alloc (.cells (Qe r) 49))):=⟨Q3 (Below.refl _ _) _⟩
 have HF0:=Q0 h
 have HF1:=Q0 (h.bel HB1.o)
 have HFR:=Q0 h.fresh
 have HRI:=Q0 h.rising
 have HSN:=Q0 hsn
 have HZ1:=Q0 (heap_alloc_new w (.cells (Qe r) 49))
 obtain⟨w1,hw1⟩:∃w1,w.alloc (.cells (Qe r) 49)=w1:=⟨_,rfl⟩
 obtain⟨b1,hb1⟩:∃b,w.heap.size=b:=⟨_,rfl⟩
 rw[hw1]at HB1 HF1 HZ1
 rw[hb1]at HZ1 HFR
 obtain⟨c0,c1,c2,c3,c4,c5,c6,c7,c8,c9⟩:=Qb HZ1.o
 have lz:=Q6 HZ1.o
 obtain⟨x,hx⟩:∃x,got s.t r.txn=x:=⟨_,rfl⟩
 obtain⟨hs,hhs⟩:∃hs,has s.t r.txn=hs:=⟨_,rfl⟩
 have HX:=Q0 (And.intro hx hhs)
 have HUL:Sc (∀g:Int×Int×Int->Int×Int×Int,(upd s.t r.txn g).length<=1000000):=⟨fun g=>by rw[Jv];exact ht⟩
 clear hok hs' h hx hhs hsn
 by_cases h7:7<=r.kind
 ·have d7:decide (7<=r.kind)=true:=decide_eq_true h7
  have HE:Sc (ok=true/\s'=s):=⟨by
   have:=HOK.o
   unfold Xc at this
   rw[if_neg (by rw[hins];exact Bool.false_ne_true),if_pos h7]at this
   injection this with h1 h2
   exact⟨h1.symm,h2.symm⟩⟩
  clear hins
  go_enter Tryz.func40,Tryz.ntmps40
  go_wp2
  go_ret
  exact⟨by rw[HE.o.1];rfl,by rw[HE.o.2];exact Y0.same HF0.o HB1.o⟩
 have d7:decide (7<=r.kind)=false:=decide_eq_false h7
 have HG:Sc (Yu lsn r s=(ok,s')):=⟨by
  have:=HOK.o
  unfold Xc at this
  rwa [if_neg (by rw[hins];exact Bool.false_ne_true),if_neg h7]at this⟩
 clear hins
 go_enter Tryz.func40,Tryz.ntmps40
 go_upto_region 3 with fail
 clear hw1 hb1
 go_cut [7,8] from 14 to 22 (fun s7 s8 wx=>∃b7,s7=.pointer (some ⟨b7,0,none⟩)/\s8=.bool hs/\w1.heap.size<=b7/\Sc (wx.heap[b7]? =some (.cells (Qg x).toArray 58 (0,0)))/\Sc (Below w1.heap.size w1 wx))
 case first=>
  go_region_law (first|(go_simp;go_at_call 82;refine(Y5s _ r.txn (by first|with_reducible exact HF1.o.drew|exact(HF1.o.bel (Q3 (Below.refl _ _) _)).drew|exact(HF1.o.drew.bel (Q3 (Below.refl _ _) _))) ht).mono ?_;rw[HX.o.1,HX.o.2];rintro e w2 ⟨rfl,hb⟩;have HB2:Sc (Below w1.heap.size w1 w2):=⟨by first|exact(Below.refl w1.heap.size w1).drew.trans hb|exact((Below.refl w1.heap.size w1).alloc (Nat.le_refl _) _).drew.trans (hb.mono (by simp))|exact((Below.refl w1.heap.size w1).drew.alloc (Nat.le_refl _) _).trans (hb.mono (by simp))⟩;(first|(have hz:w2.heap[w1.heap.size]? =some (.cells X4d 58 (0,0)):=(hb.block _ (by simp)).trans (heap_alloc_new w1 (.cells X4d 58));obtain⟨q0,q1,q2,q3⟩:=Oe (x:=(0,0,0,0)) hz;have y0:=Q2 hz 0;have y1:=Q2 hz 1;have y2:=Q2 hz 2;have y3:=Q2 hz 3;have HZ2:=Q0 hz;clear hz)|skip);clear hb))
  all_goals
   go_wp2_with fail
   go_meet
   case rel=>first
    |exact⟨_,rfl,rfl,HB2.o.size,⟨heap_alloc_new w2 _⟩,⟨Q3 HB2.o _⟩⟩
    |exact⟨_,rfl,rfl,Nat.le_refl _,⟨X7x HZ2.o⟩,⟨Q7v HB2.o (Nat.le_refl _)⟩⟩
 case rest=>
  obtain⟨b7,rfl,rfl,hb7,HX7,HB7⟩:=hcut
  have HFC:=Q0 (HF1.o.bel HB7.o)
  have HZC:=Q0 (up HB7.o HZ1.o)
  have HBC:Sc (Below w.heap.size w wc):=⟨Q5 HB1.o HB7.o⟩
  have HR7:Sc (b7≠fb/\rt≠some b7/\rd≠some b7):=⟨by have:=HF1.o.lt;omega,fun he=>by have:=HF1.o.Gt.1 _ he;omega,fun he=>by have:=HF1.o.Gt.2 _ he;omega⟩
  have hne:b1≠b7:=by omega
  clear c0 c1 c2 c3 c4 c5 c6 c7 c8 c9 lz
  obtain⟨c0,c1,c2,c3,c4,c5,c6,c7,c8,c9⟩:=Qb HZC.o
  obtain⟨x0,x1,x2,x3⟩:=Oe HX7.o
  have lz:=Q6 HZC.o
  have l7:=Q6 HX7.o
  by_cases h1:r.kind=1
  ·have e1:(r.kind==1)=true:=by simp[h1]
   have HC:Sc (ok= !hs/\s'={s with t:=Qt s.t (r.txn,0,lsn,0),m:=max s.m r.txn}):=⟨by
    have:=HG.o
    rw[X3d h1,HX.o.2]at this
    injection this with h1 h2
    exact⟨h1.symm,h2.symm⟩⟩
   clear h1
   go_wp2_with fail
   have CA:Calls Tryz.prog 79 #[.pointer (some ⟨fb,1,none⟩),.agg #[.int .i64 r.txn,.int .i64 0,.int .i64 lsn,.int .i64 0]] wc.drew fun e w2=>e=.returned (.tuple #[])/\Y0 B fb lb rt rd {s with t:=Qt s.t (r.txn,0,lsn,0),m:=max s.m r.txn} wc w2:=(X2w wc.drew (r.txn,0,lsn,0) HFC.o.drew ht).mono fun e w' ⟨he,hl⟩=>⟨he,hl.from_ (Below.refl wc.heap.size wc).drew⟩
   go_region_law (first|(go_simp;go_at_call 79;refine CA.mono ?_;rintro e w2 ⟨rfl,hl⟩;have HLF:=Q0 hl;clear hl))
   all_goals
    clear CA
    go_wp2
    go_ret
    exact⟨by rw[HC.o.1];rfl,by rw[HC.o.2];exact HLF.o.from_ HBC.o⟩
  have e1:(r.kind==1)=false:=Ql h1
  cases hs with
  |false=>
   have HC:Sc (ok=false/\s'=s):=⟨by
    have:=HG.o
    rw[X3e h1 (.inl HX.o.2)]at this
    injection this with h1 h2
    exact⟨h1.symm,h2.symm⟩⟩
   clear h1
   go_wp2
   go_ret
   exact⟨by rw[HC.o.1];rfl,by rw[HC.o.2];exact Y0.same HF0.o HBC.o⟩
  |true=>
   by_cases hpv:r.prev=x.2.2.1
   case neg=>
    have epv:(r.prev==x.2.2.1)=false:=Ql hpv
    have HC:Sc (ok=false/\s'=s):=⟨by
     have:=HG.o
     rw[X3e h1 (.inr (by rw[HX.o.1];exact hpv))]at this
     injection this with h1 h2
     exact⟨h1.symm,h2.symm⟩⟩
    clear h1 hpv
    go_wp2
    go_ret
    exact⟨by rw[HC.o.1];rfl,by rw[HC.o.2];exact Y0.same HF0.o HBC.o⟩
   have epv:(r.prev==x.2.2.1)=true:=by simp[hpv]
   have hno:¬(has s.t r.txn=false\/r.prev≠(got s.t r.txn).2.2.1):=by rw[HX.o.1,HX.o.2];simp[hpv]
   have HNO:=Q0 hno
   clear hno
   have HZ4:=Q0 (up HB7.o HZ1.o)
   by_cases h2:r.kind=2
   ·have e2:(r.kind==2)=true:=by simp[h2]
    have HC:Sc (ok=(x.2.1==0)/\s'={s with t:=upd s.t r.txn (fun y=>(y.1,lsn,lsn)),d:=add s.d (r.page,lsn)}):=⟨by
     have:=HG.o
     rw[Y0l HRI.o HSN.o h2 HNO.o,HX.o.1]at this
     injection this with h1 h2
     exact⟨h1.symm,h2.symm⟩⟩
    clear h1 h2 hpv h7
    go_wp2_with fail
    have CA:Calls Tryz.prog 80 #[.pointer (some ⟨fb,3,none⟩),.int .i64 r.page,.int .i64 lsn] wc.drew fun e w2=>e=.returned (.tuple #[])/\Y0 B fb lb rt rd {s with d:=add s.d (r.page,lsn)} wc w2:=(Q5e wc.drew r.page lsn HFC.o.drew hd).mono fun e w' ⟨he,hl⟩=>⟨he,hl.from_ (Below.refl wc.heap.size wc).drew⟩
    go_region_law (first|(go_simp;go_at_call 80;refine CA.mono ?_;rintro e w2 ⟨rfl,hl⟩;have HLF:=Q0 hl;clear hl))
    all_goals
     clear CA
     obtain⟨rt2,rd2,hf2,hk2,ht2,hd2,hn2⟩:=HLF.o.Um (Q6 HZC.o) HFR.o
     have HZ9:=Q0 (HLF.o.at_ HZC.o HFR.o)
     obtain⟨c0,c1,c2,c3,c4,c5,c6,c7,c8,c9⟩:=Qb HZ9.o
     have HK2:=Q0 (And.intro hk2 (And.intro ht2 hd2))
     have CN:Calls Tryz.prog 85 #[.pointer (some ⟨fb,1,none⟩),.int .i64 r.txn,.int .i64 lsn,.int .i64 lsn] w2.drew fun e w3=>e=.returned (.bool (has s.t r.txn))/\Y0 B fb lb rt2 rd2 {s with t:=upd s.t r.txn (fun y=>(y.1,lsn,lsn)),d:=add s.d (r.page,lsn)} w2 w3:=(Q0o w2.drew r.txn lsn lsn hf2.drew ht).mono fun e w' ⟨he,hl⟩=>⟨he,hl.from_ (Below.refl w2.heap.size w2).drew⟩
     clear hf2 hk2 ht2 hd2 hn2
     go_wp2_with fail
     go_region_law (first|(go_simp;go_at_call 85;refine CN.mono ?_;rintro e w3 ⟨rfl,hl⟩;have HLG:=Q0 hl;clear hl))
     all_goals
      clear CN
      go_wp2
      go_ret
      exact⟨by rw[HC.o.1];rfl,by rw[HC.o.2];exact(Y0.trans HK2.o.1 HK2.o.2.1 HK2.o.2.2 HLG.o).from_ HBC.o⟩
   have e2:(r.kind==2)=false:=Ql h2
   by_cases h3:r.kind=3
   ·have e3:(r.kind==3)=true:=by simp[h3]
    have HC:Sc (ok=(decide (x.2.1≠1)&&decide (r.next<lsn))/\s'={s with t:=upd s.t r.txn (fun y=>(y.1,lsn,r.next)),d:=add s.d (r.page,lsn)}):=⟨by
     have:=HG.o
     rw[Y0j HRI.o HSN.o h3 HNO.o,HX.o.1]at this
     injection this with h1 h2
     exact⟨h1.symm,h2.symm⟩⟩
    clear h1 h2 h3 hpv h7
    have CA:Calls Tryz.prog 80 #[.pointer (some ⟨fb,3,none⟩),.int .i64 r.page,.int .i64 lsn] wc.drew fun e w2=>e=.returned (.tuple #[])/\Y0 B fb lb rt rd {s with d:=add s.d (r.page,lsn)} wc w2:=(Q5e wc.drew r.page lsn HFC.o.drew hd).mono fun e w' ⟨he,hl⟩=>⟨he,hl.from_ (Below.refl wc.heap.size wc).drew⟩
    go_wp2_with fail
    all_goals
     go_region_law (first|(go_simp;go_at_call 80;refine CA.mono ?_;rintro e w2 ⟨rfl,hl⟩;have HLF:=Q0 hl;clear hl))
    all_goals
     clear CA
     obtain⟨rt2,rd2,hf2,hk2,ht2,hd2,hn2⟩:=HLF.o.Um (Q6 HZC.o) HFR.o
     have HZ9:=Q0 (HLF.o.at_ HZC.o HFR.o)
     obtain⟨c0,c1,c2,c3,c4,c5,c6,c7,c8,c9⟩:=Qb HZ9.o
     have HK2:=Q0 (And.intro hk2 (And.intro ht2 hd2))
     have CN:Calls Tryz.prog 85 #[.pointer (some ⟨fb,1,none⟩),.int .i64 r.txn,.int .i64 lsn,.int .i64 r.next] w2.drew fun e w3=>e=.returned (.bool (has s.t r.txn))/\Y0 B fb lb rt2 rd2 {s with t:=upd s.t r.txn (fun y=>(y.1,lsn,r.next)),d:=add s.d (r.page,lsn)} w2 w3:=(Q0o w2.drew r.txn lsn r.next hf2.drew ht).mono fun e w' ⟨he,hl⟩=>⟨he,hl.from_ (Below.refl w2.heap.size w2).drew⟩
     clear hf2 hk2 ht2 hd2 hn2
     go_wp2_with fail
     go_region_law (first|(go_simp;go_at_call 85;refine CN.mono ?_;rintro e w3 ⟨rfl,hl⟩;have HLG:=Q0 hl;clear hl))
     all_goals
      clear CN
      go_wp2
      go_ret
      refine⟨?_,by rw[HC.o.2];exact(Y0.trans HK2.o.1 HK2.o.2.1 HK2.o.2.2 HLG.o).from_ HBC.o⟩
      first
       |(have HW:ok=(x.2.1 !=1&&decide (r.next<lsn)):=(by rw[HC.o.1];by_cases hq:x.2.1=1<;>simp[hq]);rw[HW];rfl)
       |(have HW:ok=false:=(by rw[HC.o.1];simp[*]);rw[HW];rfl)
       |(have HW:ok=decide (r.next<lsn):=(by rw[HC.o.1];simp[*]);rw[HW];rfl)
   have e3:(r.kind==3)=false:=Ql h3
   by_cases h4:r.kind=4
   ·have e4:(r.kind==4)=true:=by simp[h4]
    have HC:Sc (ok=(x.2.1==0)/\s'={s with t:=upd (upd s.t r.txn (fun y=>(1,y.2.1,y.2.2))) r.txn (fun y=>(y.1,lsn,x.2.2.2))}):=⟨by
     have:=HG.o
     rw[Q2m HRI.o HSN.o 1 (.inl ⟨h4,rfl⟩) HNO.o,HX.o.1]at this
     injection this with h1 h2
     exact⟨h1.symm,h2.symm⟩⟩
    obtain⟨t4,ht4⟩:∃t4,upd s.t r.txn (fun y=>((1:Int),y.2.1,y.2.2))=t4:=⟨_,rfl⟩
    have HTL:Sc (t4.length<=1000000):=⟨by rw[<-ht4,Jv];exact ht⟩
    have CS:=Q8i wc.drew r.txn 1 HFC.o.drew ht
    rw[ht4]at HC CS
    clear h1 h2 h3 h4 hpv h7 ht4
    go_wp2_with fail
    have CA:Calls Tryz.prog 83 #[.pointer (some ⟨fb,1,none⟩),.int .i64 r.txn,.int .i64 1] wc.drew fun e w2=>e=.returned (.bool (has s.t r.txn))/\Y0 B fb lb rt rd {s with t:=t4} wc w2:=CS.mono fun e w' ⟨he,hl⟩=>⟨he,hl.from_ (Below.refl wc.heap.size wc).drew⟩
    go_region_law (first|(go_simp;go_at_call 83;refine CA.mono ?_;rintro e w2 ⟨rfl,hl⟩;have HLF:=Q0 hl;clear hl))
    all_goals
     clear CA CS
     obtain⟨rt2,rd2,hf2,hk2,ht2,hd2,hn2⟩:=HLF.o.Um (Q6 HZC.o) HFR.o
     have HZ9:=Q0 (HLF.o.at_ HZC.o HFR.o)
     obtain⟨c0,c1,c2,c3,c4,c5,c6,c7,c8,c9⟩:=Qb HZ9.o
     have HK2:=Q0 (And.intro hk2 (And.intro ht2 hd2))
     have CN:Calls Tryz.prog 85 #[.pointer (some ⟨fb,1,none⟩),.int .i64 r.txn,.int .i64 lsn,.int .i64 x.2.2.2] w2.drew fun e w3=>e=.returned (.bool (has (t4) r.txn))/\Y0 B fb lb rt2 rd2 {s with t:=upd (t4) r.txn (fun y=>(y.1,lsn,x.2.2.2))} w2 w3:=(Q0o w2.drew r.txn lsn x.2.2.2 hf2.drew HTL.o).mono fun e w' ⟨he,hl⟩=>⟨he,hl.from_ (Below.refl w2.heap.size w2).drew⟩
     clear hf2 hk2 ht2 hd2 hn2
     go_wp2_with fail
     go_region_law (first|(go_simp;go_at_call 85;refine CN.mono ?_;rintro e w3 ⟨rfl,hl⟩;have HLG:=Q0 hl;clear hl))
     all_goals
      clear CN
      go_wp2
      go_ret
      exact⟨by rw[HC.o.1];rfl,by rw[HC.o.2];exact(Y0.trans HK2.o.1 HK2.o.2.1 HK2.o.2.2 HLG.o).from_ HBC.o⟩
   have e4:(r.kind==4)=false:=Ql h4
   by_cases h5:r.kind=5
   ·have e5:(r.kind==5)=true:=by simp[h5]
    have HC:Sc (ok=(x.2.1==0)/\s'={s with t:=upd (upd s.t r.txn (fun y=>(2,y.2.1,y.2.2))) r.txn (fun y=>(y.1,lsn,x.2.2.2))}):=⟨by
     have:=HG.o
     rw[Q2m HRI.o HSN.o 2 (.inr ⟨h5,rfl⟩) HNO.o,HX.o.1]at this
     injection this with h1 h2
     exact⟨h1.symm,h2.symm⟩⟩
    obtain⟨t4,ht4⟩:∃t4,upd s.t r.txn (fun y=>((2:Int),y.2.1,y.2.2))=t4:=⟨_,rfl⟩
    have HTL:Sc (t4.length<=1000000):=⟨by rw[<-ht4,Jv];exact ht⟩
    have CS:=Q8i wc.drew r.txn 2 HFC.o.drew ht
    rw[ht4]at HC CS
    clear h1 h2 h3 h4 h5 hpv h7 ht4
    go_wp2_with fail
    have CA:Calls Tryz.prog 83 #[.pointer (some ⟨fb,1,none⟩),.int .i64 r.txn,.int .i64 2] wc.drew fun e w2=>e=.returned (.bool (has s.t r.txn))/\Y0 B fb lb rt rd {s with t:=t4} wc w2:=CS.mono fun e w' ⟨he,hl⟩=>⟨he,hl.from_ (Below.refl wc.heap.size wc).drew⟩
    go_region_law (first|(go_simp;go_at_call 83;refine CA.mono ?_;rintro e w2 ⟨rfl,hl⟩;have HLF:=Q0 hl;clear hl))
    all_goals
     clear CA CS
     obtain⟨rt2,rd2,hf2,hk2,ht2,hd2,hn2⟩:=HLF.o.Um (Q6 HZC.o) HFR.o
     have HZ9:=Q0 (HLF.o.at_ HZC.o HFR.o)
     obtain⟨c0,c1,c2,c3,c4,c5,c6,c7,c8,c9⟩:=Qb HZ9.o
     have HK2:=Q0 (And.intro hk2 (And.intro ht2 hd2))
     have CN:Calls Tryz.prog 85 #[.pointer (some ⟨fb,1,none⟩),.int .i64 r.txn,.int .i64 lsn,.int .i64 x.2.2.2] w2.drew fun e w3=>e=.returned (.bool (has (t4) r.txn))/\Y0 B fb lb rt2 rd2 {s with t:=upd (t4) r.txn (fun y=>(y.1,lsn,x.2.2.2))} w2 w3:=(Q0o w2.drew r.txn lsn x.2.2.2 hf2.drew HTL.o).mono fun e w' ⟨he,hl⟩=>⟨he,hl.from_ (Below.refl w2.heap.size w2).drew⟩
     clear hf2 hk2 ht2 hd2 hn2
     go_wp2_with fail
     go_region_law (first|(go_simp;go_at_call 85;refine CN.mono ?_;rintro e w3 ⟨rfl,hl⟩;have HLG:=Q0 hl;clear hl))
     all_goals
      clear CN
      go_wp2
      go_ret
      exact⟨by rw[HC.o.1];rfl,by rw[HC.o.2];exact(Y0.trans HK2.o.1 HK2.o.2.1 HK2.o.2.2 HLG.o).from_ HBC.o⟩
   have e5:(r.kind==5)=false:=Ql h5
   have HC:Sc (ok=true/\s'={s with t:=X4 s.t r.txn}):=⟨by
    have:=HG.o
    rw[Y0k (by omega) HNO.o]at this
    injection this with h1 h2
    exact⟨h1.symm,h2.symm⟩⟩
   clear h1 h2 h3 h4 h5 hpv h7
   go_wp2_with fail
   have CA:Calls Tryz.prog 84 #[.pointer (some ⟨fb,1,none⟩),.int .i64 r.txn] wc.drew fun e w2=>e=.returned (.bool (has s.t r.txn))/\Y0 B fb lb rt rd {s with t:=X4 s.t r.txn} wc w2:=(Y2w wc.drew r.txn HFC.o.drew ht).mono fun e w' ⟨he,hl⟩=>⟨he,hl.from_ (Below.refl wc.heap.size wc).drew⟩
   go_region_law (first|(go_simp;go_at_call 84;refine CA.mono ?_;rintro e w2 ⟨rfl,hl⟩;have HLF:=Q0 hl;clear hl))
   all_goals
    clear CA
    go_wp2
    go_ret
    exact⟨by rw[HC.o.1];rfl,by rw[HC.o.2];exact HLF.o.from_ HBC.o⟩
end
end Go.Proofs.YtoapihepdallbaaGreatDoor
