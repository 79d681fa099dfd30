import Derived.Test.YtoapihepdallbaaGreatDoorP28
namespace Go.Proofs.YtoapihepdallbaaGreatDoor
open Go.RowKit
theorem Gf{P:Program}{w:World}{ops:Array Oper}{o:Oper}{a:Act}{K:Act->World->Prop}{Q:Exit->Act->World->Prop}{E:Prop}(hgd:o.guard=none)(s x:Operand)(t:TypeId)
  (ho:o.op=.call {callee:=.builtin .append,args:= #[s,x],argTypes:= #[t,t]})
  (bb:Nat) (e:TypeId) (i:TypeInfo) (z:Value) (size bytes:Nat) (ht:P.underlying t=some (.slice e)) (hi:P.info? e=some i) (hz:i.zero=some z)
  (hsize:i.size=size) (hby:i.bytes=bytes) (hzs:z.cells.size=size) (hsz:0<size)
  (b:Nat) (hs:a.eval s=.slice (some ⟨b,0,none⟩) 0 0) (hE:w.ownsRow bb e size (.slice (some ⟨b,0,none⟩) 0 0) 0 [])
  (v:Value) (n:Nat) (xs:List Value) (hx:a.eval x=v) (base:Nat) (hv:w.ownsRow base e size v n xs) (hone:∀u∈xs,u.oneCell'=true) (h63:n<=maxLen) (hbytes:n*bytes<=140737488355328) (hbase:bb<=w.heap.size)
  (h:∀A n' c w',w'.ownsRow bb e size (.slice A n' c) n xs->w.grownBy w' (some b)->K (a.put o.dst (.slice A n' c)) w'):
  if Region.wanted o (yielded ops a.tmps)=true then Oper.wp P o a w K Q else E:=by
 have hw:Region.wanted o (yielded ops a.tmps)=true:=by simp[Region.wanted,hgd]
 rw[if_pos hw]
 have key:∃A n' c w',(Builtin.append_ #[t,t] o.type #[.slice (some ⟨b,0,none⟩) 0 0,v]).run P w=.ok (.slice A n' c) w'/\w'.ownsRow bb e size (.slice A n' c) n xs/\w.grownBy w' (some b):=by
  obtain⟨hl,hc⟩:=hv
  rcases hc with ⟨rfl,rfl⟩|⟨g,cap,cur,rfl,hg1,hg2,hg3,hg4,hg5,hg6⟩
  ·have hx0:xs=[]:=List.eq_nil_of_length_eq_zero (by omega)
   subst hx0
   have hr:=run_append_room_src w t t o.type e i ht hi b 0 0 0 (.slice none 0 0) 0 [] (Src.ofNil (size:=i.size) w ht 0) (by omega) (fun j hj=>absurd hj (by simp)) (fun j hj=>absurd hj (by simp))
   refine⟨some ⟨b,0,none⟩,0,0,w,?_,hE,⟨rfl,rfl,rfl,Nat.le_refl _,fun _ _ _=>rfl⟩⟩
   rw[hr]
   simp[World.setCells]
  ·obtain⟨v',w',hr,h2,h3,_,_⟩:=run_append_own_at (P:=P) w bb t o.type e i z size bytes ht hi hz hsize hby hzs hsz (.slice (some ⟨b,0,none⟩) 0 0) 0 [] hE ⟨g,0,none⟩ n cap xs hl
    (World.ownsRow.cells (g:=g) (show w.ownsRow base e size (.slice (some ⟨g,0,none⟩) n cap) n xs from⟨hl,.inr ⟨g,cap,cur,rfl,hg1,hg2,hg3,hg4,hg5,hg6⟩⟩) rfl) hone (by omega) (by rw[Nat.zero_add];exact hbytes) hbase
   rw[Nat.zero_add,List.nil_append]at h2
   have hf:∃A n' c,v'=.slice A n' c:=by
    rcases h2.2 with ⟨h,_⟩|⟨g',cap',cur',h,_⟩
    ·exact⟨_,_,_,h⟩
    ·exact⟨_,_,_,h⟩
   obtain⟨A,n',c,rfl⟩:=hf
   exact⟨A,n',c,w',hr,h2,h3⟩
 obtain⟨A,n',c,w',hr,h2,h3⟩:=key
 unfold Oper.wp execOp
 simp only[ho,resolve,invoke,builtin,Sem.run_bind,Sem.run_pure,Result.andThen_ok,List.map_toArray,List.map_cons,List.map_nil,hs,hx,hr]
 exact h A n' c w' h2 h3
section
set_option maxHeartbeats 8000000
set_option maxRecDepth 4000
theorem Kp.put{S:Nat->Prop}{w w':World}(h:Kp S w w'){b o:Nat}(hb:S b)(u:Value):Kp S w (w'.setCell ⟨b,o,none⟩ u):=h.trans (Kp.setCell w' ⟨b,o,none⟩ u) (fun q hq=> .inl (by rw[hq];exact hb))
theorem Kp.Vd{S:Nat->Prop}{w:World}:Kp S w w:=Kp.Qi (Below.refl _ _) _
theorem Part.boxed{A B:Part}{w w1 wX wY:World}(hA:A.P w)(hb:Below w.heap.size w w1)(hl:Q8 A B w1 wX)(hk:Kp (fun q=>w.heap.size<=q/\q<w1.heap.size) wX wY):Q8 A B w wY:=
 ⟨B.kp hl.1 hk (fun q hq hs=>(hl.2.2 q hq).elim (fun ha=>by have:=A.lt hA q ha;omega) (fun hn=>by omega)),((Kp.Qi hb _).trans hl.2.1 (fun q hq=> .inl hq)).trans hk (fun q hq=> .inr hq.1),fun q hq=>(hl.2.2 q hq).imp id (fun hn=>by have:=hb.size;omega)⟩
theorem Q9v(w:World)(P:X9)(n:Nat)(h:Ya P w)(h1:1<=n)(h2:n<=P.pages)(hno:∀f∈P.O.fr,f.n≠n):
  Calls Tryz.prog 149 #[.pointer (some ⟨P.D.db,0,none⟩),.int .i64 n] w fun e w'=>∃v,e=.returned (.tuple #[v,.int .i64 0])/\RdB w' v (Yk (P.pv n).1 (P.pv n).2)/\Below w.heap.size w w':=by
 have hd:has P.O.tab n=false:=Q3g fun x hx he=>by
  obtain⟨f,hf,hfe⟩:=h.plain.Zt x hx
  exact hno f hf (by rw[hfe,he])
 have hc:=h.plain.clean n h1 h2 hd
 unfold Qw.c at hc
 rw[List.getElem?_map]at hc
 obtain⟨g,hg,hgf⟩:=Option.map_eq_some_iff.1 hc
 exact(Q9d P.D w n g h.dl.V8 hg).mono fun e w' ⟨v,he,ho,hb⟩=>⟨v,he,by rw[<-hgf];exact ho.rd,hb⟩
theorem Q9t(w:World)(v:Value)(n:Int)(l:List (Int×Int))(hok:OkP n l)(hv:G6 l)(hrd:RdB w v (Yk n l)):
  Calls Tryz.prog 150 #[v] w fun e w'=>∃A k c,e=.returned (.tuple #[Zn n (.slice A k c),.int .i64 0])/\Own Qj 2 227 w.heap.size w' (.slice A k c) l/\Below w.heap.size w w':=by
 obtain⟨h1,h2,h3⟩:=Y2r hok hv
 refine(X2t w v (Yk n l) hrd (X9r n l) (by rw[Vz];omega)).mono ?_
 rintro e w' ⟨hc,hb⟩
 rcases hc with ⟨hl,_⟩|⟨_,_,A,k,c,he,ho⟩|⟨_,hno,_⟩
 ·exact absurd (Vz n l) hl
 ·rw[h2]at he
  rw[h3]at ho
  exact⟨A,k,c,he,ho,hb⟩
 ·exact absurd h1 hno
theorem Yr.more{P:X9}(h:Yr P){f:FrV}(hf:1<=f.n/\f.n<=P.pages/\P.pv f.n=(f.lsn,f.l))(hno:∀g∈P.O.fr,g.n≠f.n)(hm:P.O.fr.length+1<=P.O.most){U3:Option Nat}:Yr {P with O:={P.O with U3:=U3,fr:=P.O.fr++[f]}}:=
 {h with
  few:=by show(P.O.fr++[f]).length<=_;rw[List.length_append];exact hm
  here:=fun g hg=>by
   rcases List.mem_append.1 (show g∈P.O.fr++[f] from hg) with hg|hg
   ·exact h.here g hg
   ·rw[List.mem_singleton.1 hg];exact hf
  one:=by
   show((P.O.fr++[f]).map (·.n)).Nodup
   rw[List.map_append]
   exact List.nodup_append.2 ⟨h.one,List.nodup_cons.2 ⟨List.not_mem_nil,List.nodup_nil⟩,fun a ha b hb=>by
    obtain⟨g,hg,rfl⟩:=List.mem_map.1 ha
    rw[List.mem_singleton.1 hb]
    exact hno g hg⟩
  Zt:=fun y hy=>by
   obtain⟨g,hg,he⟩:=h.Zt y hy
   exact⟨g,List.mem_append_left _ hg,he⟩}
theorem Q2w(w:World)(P:X9)(n hint:Nat)(f:FrV)(h:Ya P w)(hf:f∈P.O.fr)(hfn:f.n=n):
  Calls Tryz.prog 114 #[.pointer (some ⟨P.O.pb,0,none⟩),.int .i64 n,.int .i64 hint] w fun e w'=>∃g,e=.returned (.tuple #[Zn g.lsn g.v,X5 0])/\Q8 (Qa P) (Qa P) w w'/\g∈P.O.fr/\g.n=n:=by
 have HZ0:=Q0 h
 obtain⟨w1,hw1⟩:∃w1,(w.alloc (.cells #[.int .i64 0,.slice none 0 0] 197)).alloc (.cells fz 41)=w1:=⟨_,rfl⟩
 have HB1:Sc (Below w.heap.size w w1):=⟨hw1▸Q3 (Q3 (Below.refl _ _) _) _⟩
 have HP1:Sc (w1.heap[w.heap.size]? =some (.cells #[.int .i64 0,.slice none 0 0] 197 (0,0))/\w1.heap[w.heap.size+1]? =some (.cells fz 41 (0,0))):=⟨hw1▸Ym w _ _⟩
 have HZ:Sc (Ya P w1):=⟨(Qa P).bel h HB1.o⟩
 have HBS:Sc (w1.heap.size=w.heap.size+2):=⟨by rw[<-hw1];simp⟩
 obtain⟨b6,hb6⟩:∃b,w.heap.size=b:=⟨_,rfl⟩
 have HB6:=Q0 hb6
 obtain⟨pb,hpb⟩:∃pb,P.O.pb=pb:=⟨_,rfl⟩
 have HPB:=Q0 hpb
 have CP:Sc (Calls Tryz.prog 110 #[.pointer (some ⟨pb,0,none⟩),.int .i64 n] w1 fun e w'=>∃r:Int,e=.returned (.int .i64 r)/\Co P.O.fr n r/\w1=w'):=⟨by have:=Un w1 P n HZ.o;rw[hpb]at this;exact this⟩
 have HFM:Sc (f∈P.O.fr/\f.n=n):=⟨hf,hfn⟩
 rw[hpb]
 clear h hpb hf hfn
 go_enter Tryz.func114,Tryz.ntmps114
 go_wp2_with fail
 try rw[hw1]
 try rw[hb6]
 clear hw1 hb6
 refine CP.o.mono ?_
 rintro e w' ⟨r,rfl,hr,rfl⟩
 rcases hr with ⟨_,hno⟩|⟨k,g,rfl,hk,hgn⟩
 ·exact absurd HFM.o.2 (hno f HFM.o.1)
 obtain⟨A1,q1,v1,hvf,hof,c0,c1,c2,c3,c4,lt,_⟩:=HZ.o.cells
 obtain⟨m,hm⟩:∃m,P.O.fr.length=m:=⟨_,rfl⟩
 have hkm:k<m:=by rw[<-hm];exact(List.getElem?_eq_some_iff.1 hk).1
 rw[hm]at hof c3 hvf
 rw[HPB.o]at c0 c1 c2 c3 c4 lt
 obtain⟨g1,q2,he,_,_,_,_⟩:=hof.form (by omega)
 injection he with hA hn2 hC
 subst hA
 subst hC
 clear hn2
 obtain⟨_,e1,e2⟩:=hof.C6 hk
 have HGM:Sc (g∈P.O.fr/\g.n=n):=⟨List.mem_of_getElem? hk,hgn⟩
 have hk1:(k:Int)<m:=by omega
 have hk0:(0:Int)<=k:=by omega
 have HSW:Sc (∀W,Below w1.heap.size w1 W->W.cell? ⟨pb,3,none⟩=some (.slice (some ⟨g1,0,none⟩) m q1)/\W.cell? ⟨g1,k*3+1,none⟩=some (.int .i64 g.lsn)/\W.cell? ⟨g1,k*3+2,none⟩=some g.v):=⟨fun W hW=>⟨(hW.cell lt).trans c3,(hW.cell (World.block_lt_of_cell? _ _ e1)).trans e1,(hW.cell (World.block_lt_of_cell? _ _ e2)).trans e2⟩⟩
 have HQ:Sc (Below w1.heap.size w1 w1):=⟨Below.refl _ _⟩
 have CNO:Sc (∀X,Below w1.heap.size w1 X->Calls Tryz.prog 41 #[] X fun e w'=>e=.returned (X5 0)/\Below w1.heap.size w1 w'):=⟨fun X hX=>(Vc X).mono fun e w' ⟨he,hb⟩=>⟨he,Q5 hX hb⟩⟩
 clear hk hgn hm hof hvf
 go_wp2_with fail
 go_region_law
  (first
   |(go_simp;go_at_call 41;go_loud (refine(CNO.o _ (by first|with_reducible exact HQ.o|with_reducible exact Below.drew HQ.o)).mono ?_;rintro e wt ⟨rfl,hq⟩;have HQ:=Q0 hq;obtain⟨s1,s2,s3⟩:=HSW.o _ hq;obtain⟨p0,p1⟩:=Qf ((hq.block _ (by have:=HBS.o;have:=HB6.o;omega)).trans (show w1.heap[b6]? =some (.cells #[.int .i64 0,.slice none 0 0] 197 (0,0)) from by rw[<-HB6.o];exact HP1.o.1));obtain⟨z0,z1,z2,y0,y1,y2,lz⟩:=Q7 (show wt.heap[b6+1]? =some (.cells fz 41 (0,0)) from(hq.block _ (by have:=HBS.o;have:=HB6.o;omega)).trans (by rw[<-HB6.o];exact HP1.o.2));have x0:=Q2 (show wt.heap[b6]? =some (.cells #[.int .i64 0,.slice none 0 0] 197 (0,0)) from(hq.block _ (by have:=HBS.o;have:=HB6.o;omega)).trans (by rw[<-HB6.o];exact HP1.o.1)) 0;have x1:=Q2 (show wt.heap[b6]? =some (.cells #[.int .i64 0,.slice none 0 0] 197 (0,0)) from(hq.block _ (by have:=HBS.o;have:=HB6.o;omega)).trans (by rw[<-HB6.o];exact HP1.o.1)) 1;have lb6:b6<wt.heap.size:=(by omega);clear hq)))
 all_goals
  go_wp2
  refine bodyPost_ret (v:=.tuple #[Zn g.lsn g.v,X5 0]) (by simp[results,Tryz.results114,go_sem,p0,p1,z0,z1,z2]) rfl ⟨g,rfl,?_,HGM.o⟩
  refine Part.boxed (A:=Qa P) HZ0.o HB1.o (Part.same (A:=Qa P) HZ.o HQ.o) ?_
  have e1:=HBS.o
  have e2:=HB6.o
  repeat (first|with_reducible exact Kp.Vd|with_reducible refine Kp.drew ?_|with_reducible refine Kp.put ?_ ⟨by omega,by omega⟩ _)
theorem X8s{w5 w6:World}{A6:Option Addr}{n6 k6 m2:Nat}{fr:List FrV}(hm:fr.length=m2)(h1:w6.ownsRow w5.heap.size 212 3 (.slice A6 n6 k6) m2 (flat Zv fr))(h2:(w5.alloc (.cells #[] 212)).grownBy w6 (some w5.heap.size)):
  m2=n6/\Own Zv 3 212 w5.heap.size w6 (.slice A6 m2 k6) fr/\Below w5.heap.size w5 w6:=by
 have ho:Own Zv 3 212 w5.heap.size w6 (.slice A6 n6 k6) fr:=Own.Qv h1 hm rfl
 have hn:m2=n6:=by rw[<-hm];exact ho.len.symm
 subst hn
 exact⟨rfl,ho,(Q3 (Below.refl _ _) _).grown h2 (by simp) (fun k hk=>by injection hk with hk;omega)⟩
theorem X4y{w5 w6:World}{A6:Option Addr}{n6 k6 m2:Nat}{fr:List FrV}{cs:Array Value}(hm:fr.length=m2)(h1:w6.ownsRow w5.heap.size 212 3 (.slice A6 n6 k6) m2 (flat Zv fr))(h2:((w5.alloc (.cells #[] 212)).alloc (.cells cs 212)).grownBy w6 (some w5.heap.size)):
  m2=n6/\Own Zv 3 212 w5.heap.size w6 (.slice A6 m2 k6) fr/\Below w5.heap.size w5 w6/\w6.heap[w5.heap.size+1]? =some (.cells cs 212 (0,0)):=by
 have ho:Own Zv 3 212 w5.heap.size w6 (.slice A6 n6 k6) fr:=Own.Qv h1 hm rfl
 have hn:m2=n6:=by rw[<-hm];exact ho.len.symm
 subst hn
 have h3:=(Ym w5 (.cells #[] 212) (.cells cs 212)).2
 refine⟨rfl,ho,(Q3 (Q3 (Below.refl _ _) _) _).grown h2 (by simp;omega) (fun k hk=>by injection hk with hk;omega),(h2.block _ (Q6 h3) (fun he=>by injection he with he;omega)).trans h3⟩
theorem X4z{w5 w6:World}{A6:Option Addr}{n6 k6 m2:Nat}{fr:List FrV}{cs:Array Value}(hm:fr.length=m2)(h1:w6.ownsRow w5.heap.size 212 3 (.slice A6 n6 k6) m2 (flat Zv fr))(h2:((w5.alloc (.cells cs 212)).alloc (.cells #[] 212)).grownBy w6 (some (w5.heap.size+1))):
  m2=n6/\Own Zv 3 212 w5.heap.size w6 (.slice A6 m2 k6) fr/\Below w5.heap.size w5 w6/\w6.heap[w5.heap.size]? =some (.cells cs 212 (0,0)):=by
 have ho:Own Zv 3 212 w5.heap.size w6 (.slice A6 n6 k6) fr:=Own.Qv h1 hm rfl
 have hn:m2=n6:=by rw[<-hm];exact ho.len.symm
 subst hn
 have h3:=(Ym w5 (.cells cs 212) (.cells #[] 212)).1
 refine⟨rfl,ho,(Q3 (Q3 (Below.refl _ _) _) _).grown h2 (by simp;omega) (fun k hk=>by injection hk with hk;omega),(h2.block _ (Q6 h3) (fun he=>by injection he with he;omega)).trans h3⟩
theorem X5a{w5 w6 w8:World}{A6:Option Addr}{k6 m2 g8 k8:Nat}{fr:List FrV}{f:FrV}(hm:fr.length=m2)(ho6:Own Zv 3 212 w5.heap.size w6 (.slice A6 m2 k6) fr)(hb6:Below w5.heap.size w5 w6)
  (how:w8.ownsRow w5.heap.size 212 3 (.slice (some ⟨g8,0,none⟩) (m2+1) k8) (m2+1) (flat Zv fr++Zv f)) (hgr:w6.grownBy w8 (Value.slice A6 m2 k6).ownBlock):
  Own Zv 3 212 w5.heap.size w8 (.slice (some ⟨g8,0,none⟩) (m2+1) k8) (fr++[f])/\Below w5.heap.size w5 w8:=
 ⟨Own.Qv how (by rw[List.length_append,hm];rfl) (by rw[Qc,Qm]),hb6.grown hgr hb6.size (fun k hk=>(ho6.lt k hk).1)⟩
theorem X8t{w5 w6 w8:World}{A6:Option Addr}{k6 m2 g8 k8:Nat}{fr:List FrV}{f:FrV}{o:Obj}(hm:fr.length=m2)(ho6:Own Zv 3 212 w5.heap.size w6 (.slice A6 m2 k6) fr)(hb6:Below w5.heap.size w5 w6)
  (how:w8.ownsRow w5.heap.size 212 3 (.slice (some ⟨g8,0,none⟩) (m2+1) k8) (m2+1) (flat Zv fr++Zv f)) (hgr:(w6.alloc o).grownBy w8 (Value.slice A6 m2 k6).ownBlock):
  Own Zv 3 212 w5.heap.size w8 (.slice (some ⟨g8,0,none⟩) (m2+1) k8) (fr++[f])/\Below w5.heap.size w5 w8:=
 ⟨Own.Qv how (by rw[List.length_append,hm];rfl) (by rw[Qc,Qm]),(Q3 hb6 o).grown hgr (Nat.le_trans hb6.size (by simp)) (fun k hk=>(ho6.lt k hk).1)⟩
theorem Q8h{S:Nat->Prop}{w1 wt:World}{b6:Nat}(h:w1.heap[b6]? =some (.cells #[.int .i64 0,.slice none 0 0] 197 (0,0))/\w1.heap[b6+1]? =some (.cells fz 41 (0,0)))(hk:Kp S w1 wt)(h1:¬S b6)(h2:¬S (b6+1)):
  (wt.heap[b6]? =some (.cells #[.int .i64 0,.slice none 0 0] 197 (0,0))/\wt.heap[b6+1]? =some (.cells fz 41 (0,0))):=⟨hk.at h.1 h1,hk.at h.2 h2⟩
theorem Ud{wt:World}{b6:Nat}(h:wt.heap[b6]? =some (.cells #[.int .i64 0,.slice none 0 0] 197 (0,0))/\wt.heap[b6+1]? =some (.cells fz 41 (0,0))):
  wt.cell? ⟨b6,0,none⟩=some (.int .i64 0)/\wt.cell? ⟨b6,1,none⟩=some (.slice none 0 0)/\wt.cell? ⟨b6+1,0,none⟩=some (.int .i64 0)/\wt.cell? ⟨b6+1,1,none⟩=some (.bool false)/\wt.cell? ⟨b6+1,2,none⟩=some (.int .i64 0)/\
  wt.frozen? ⟨b6,0,none⟩=false/\wt.frozen? ⟨b6,1,none⟩=false/\wt.frozen? ⟨b6+1,0,none⟩=false/\wt.frozen? ⟨b6+1,1,none⟩=false/\wt.frozen? ⟨b6+1,2,none⟩=false/\b6<wt.heap.size/\b6+1<wt.heap.size:=by
 obtain⟨h1,h2⟩:=h
 exact⟨by simp[World.cell?,h1],by simp[World.cell?,h1],by simp[World.cell?,h2],by simp[World.cell?,h2],by simp[World.cell?,h2],Q2 h1 0,Q2 h1 1,Q2 h2 0,Q2 h2 1,Q2 h2 2,Q6 h1,Q6 h2⟩
theorem Q9u(w:World)(P:X9)(hint:Nat)(h:Ya P w):
  Calls Tryz.prog 114 #[.pointer (some ⟨P.O.pb,0,none⟩),.int .i64 0,.int .i64 hint] w fun e w'=>e=.returned (.tuple #[Zn 0 (.slice none 0 0),X5 102])/\Q8 (Qa P) (Qa P) w w':=by
 have HZ0:=Q0 h
 obtain⟨w1,hw1⟩:∃w1,(w.alloc (.cells #[.int .i64 0,.slice none 0 0] 197)).alloc (.cells fz 41)=w1:=⟨_,rfl⟩
 have HB1:Sc (Below w.heap.size w w1):=⟨hw1▸Q3 (Q3 (Below.refl _ _) _) _⟩
 have HP1:Sc (w1.heap[w.heap.size]? =some (.cells #[.int .i64 0,.slice none 0 0] 197 (0,0))/\w1.heap[w.heap.size+1]? =some (.cells fz 41 (0,0))):=⟨hw1▸Ym w _ _⟩
 have HZ:Sc (Ya P w1):=⟨(Qa P).bel h HB1.o⟩
 have HBS:Sc (w1.heap.size=w.heap.size+2):=⟨by rw[<-hw1];simp⟩
 obtain⟨b6,hb6⟩:∃b,w.heap.size=b:=⟨_,rfl⟩
 have HB6:=Q0 hb6
 obtain⟨pb,hpb⟩:∃pb,P.O.pb=pb:=⟨_,rfl⟩
 have HPB:=Q0 hpb
 have CP:Sc (Calls Tryz.prog 110 #[.pointer (some ⟨pb,0,none⟩),.int .i64 0] w1 fun e w'=>∃r:Int,e=.returned (.int .i64 r)/\Co P.O.fr 0 r/\w1=w'):=⟨by have:=Un w1 P 0 HZ.o;rw[hpb]at this;exact this⟩
 rw[hpb]
 clear h hpb
 go_enter Tryz.func114,Tryz.ntmps114
 go_wp2_with fail
 try rw[hw1]
 try rw[hb6]
 clear hw1 hb6
 refine CP.o.mono ?_
 rintro e w' ⟨r,rfl,hr,rfl⟩
 rcases hr with ⟨rfl,hno⟩|⟨k,g,rfl,hk,hgn⟩
 rotate_left
 ·have:=(HZ.o.plain.here g (List.mem_of_getElem? hk)).1
  omega
 clear hno
 go_wp2_with fail
 refine(Yb _ 102).mono ?_
 rintro e w2 ⟨rfl,hb⟩
 have HQ:=Q0 hb
 obtain⟨p0,p1,z0,z1,z2,x0,x1,y0,y1,y2,l6,l7⟩:=Ud (show w2.heap[b6]? =some (.cells #[.int .i64 0,.slice none 0 0] 197 (0,0))/\w2.heap[b6+1]? =some (.cells fz 41 (0,0)) from⟨up hb (by rw[<-HB6.o];exact HP1.o.1),up hb (by rw[<-HB6.o];exact HP1.o.2)⟩)
 clear hb
 go_wp2
 refine bodyPost_ret (v:=.tuple #[Zn 0 (.slice none 0 0),X5 102]) (by simp[results,Tryz.results114,go_sem,p0,p1,z0,z1,z2]) rfl ⟨rfl,?_⟩
 refine Part.boxed (A:=Qa P) HZ0.o HB1.o (Part.same (A:=Qa P) HZ.o HQ.o) ?_
 have e1:=HBS.o
 have e2:=HB6.o
 repeat (first|with_reducible exact Kp.Vd|with_reducible refine Kp.drew ?_|with_reducible refine Kp.put ?_ ⟨by omega,by omega⟩ _)
theorem Q4w(w:World)(P:X9)(n hint:Nat)(h:Ya P w)(hvm:P.D.vm<=800000)(h1:1<=n)(h2:n<=P.pages)(hh:hint<=1000000)(hno:∀f∈P.O.fr,f.n≠n):
  Calls Tryz.prog 114 #[.pointer (some ⟨P.O.pb,0,none⟩),.int .i64 n,.int .i64 hint] w fun e w'=>∃P' g,e=.returned (.tuple #[Zn g.lsn g.v,X5 0])/\Q8 (Qa P) (Qa P') w w'/\Calm P P' 1/\g∈P'.O.fr/\g.n=n:=by
 obtain⟨i0,hi0,hz0,hz1,hz2⟩:=info_parts Y6m
 have HZ0:=Q0 h
 obtain⟨w1,hw1⟩:∃w1,(w.alloc (.cells #[.int .i64 0,.slice none 0 0] 197)).alloc (.cells fz 41)=w1:=⟨_,rfl⟩
 have HB1:Sc (Below w.heap.size w w1):=⟨hw1▸Q3 (Q3 (Below.refl _ _) _) _⟩
 have HP1:Sc (w1.heap[w.heap.size]? =some (.cells #[.int .i64 0,.slice none 0 0] 197 (0,0))/\w1.heap[w.heap.size+1]? =some (.cells fz 41 (0,0))):=⟨hw1▸Ym w _ _⟩
 have HZ:Sc (Ya P w1):=⟨(Qa P).bel h HB1.o⟩
 have HBS:Sc (w1.heap.size=w.heap.size+2):=⟨by rw[<-hw1];simp⟩
 obtain⟨b6,hb6⟩:∃b,w.heap.size=b:=⟨_,rfl⟩
 have HB6:=Q0 hb6
 obtain⟨pb,hpb⟩:∃pb,P.O.pb=pb:=⟨_,rfl⟩
 have HPB:=Q0 hpb
 have CP:Sc (Calls Tryz.prog 110 #[.pointer (some ⟨pb,0,none⟩),.int .i64 n] w1 fun e w'=>∃r:Int,e=.returned (.int .i64 r)/\Co P.O.fr n r/\w1=w'):=⟨by have:=Un w1 P n HZ.o;rw[hpb]at this;exact this⟩
 have HNO:=Q0 hno
 have HVM:=Q0 hvm
 have HN2:=Q0 h2
 have hm:=h.plain.most
 have hfw:=h.plain.few
 obtain⟨most,hmost⟩:∃most,P.O.most=most:=⟨_,rfl⟩
 obtain⟨m,hml⟩:∃m,P.O.fr.length=m:=⟨_,rfl⟩
 have HMOST:=Q0 hmost
 have HML:=Q0 hml
 obtain⟨A1,q1,v1,_,_,c0,c1,c2,c3,c4,lt,_⟩:=HZ.o.cells
 rw[hpb]at c0 c1 c2 c3 c4 lt
 rw[hmost]at c2
 rw[hml]at c3
 rw[hmost]at hm hfw
 rw[hml]at hfw
 rw[hpb]
 have hn1:¬((n:Int)<1):=by omega
 clear h hpb hno hvm h2 hmost hml
 go_enter Tryz.func114,Tryz.ntmps114
 go_wp2_with fail
 try rw[hw1]
 try rw[hb6]
 clear hw1 hb6
 refine CP.o.mono ?_
 rintro e w' ⟨r,rfl,hr,rfl⟩
 rcases hr with ⟨rfl,_⟩|⟨k,g,rfl,hk,hgn⟩
 rotate_left
 ·exact absurd hgn (HNO.o g (List.mem_of_getElem? hk))
 go_upto_region 6 with fail
 go_quiet (fail)
 have HBD:Sc (Below w1.heap.size w1 (w1.drewN nq)):=⟨X0 (Below.refl _ _) _⟩
 obtain⟨w2,hw2⟩:∃w2,w1.drewN nq=w2:=⟨_,rfl⟩
 rw[hw2]at HBD ⊢
 clear hw2 c0 c1 c2 c3 c4 lt
 have HHH:=Q0 hh
 go_upto_if 41 with fail
 go_cut [9] from 41 to 49 (fun s9 wx=>∃(P1:X9),Sc (Q8 (Qa P) (Qa P1) w1 wx)/\Sc (Calm P P1 1)/\Sc (P1.O.fr.length+1<=P1.O.most/\∀g∈P1.O.fr,g.n≠n))
 case first=>
  by_cases hfull:most<=m
  ·have hfd:decide ((most:Int)<=m)=true:=decide_eq_true (by omega)
   have CE:Sc (Calls Tryz.prog 68 #[.pointer (some ⟨pb,0,none⟩),.int .i64 hint] w2 fun e w'=>e=.returned (.int .i64 0)/\∃P',Q8 (Qa P) (Qa P') w2 w'/\Calm P P' 1/\P'.O.fr.length+1=P.O.fr.length/\∀g∈P'.O.fr,g∈P.O.fr):=⟨by
    have:=Ds w2 P hint ((Qa P).bel HZ.o HBD.o) HVM.o (by rw[HML.o];omega) hh
    rw[HPB.o]at this
    exact this⟩
   go_wp2_with fail
   refine CE.o.mono ?_
   rintro e w3 ⟨rfl,P1,hl1,hc1,hlen1,hsub1⟩
   have HL1:Sc (Q8 (Qa P) (Qa P1) w1 w3):=⟨Part.from_ hl1 HBD.o⟩
   have HC1:=Q0 hc1
   have HRM:Sc (P1.O.fr.length+1<=P1.O.most/\∀g∈P1.O.fr,g.n≠n):=⟨⟨by rw[hc1.same.most,HMOST.o,hlen1,HML.o];exact hfw,fun g hg=>HNO.o g (hsub1 g hg)⟩⟩
   clear hl1 hc1 hlen1 hsub1
   go_wp2_with fail
   go_meet
   case rel=>exact⟨P1,HL1,HC1,HRM⟩
  ·have hfd:decide ((most:Int)<=m)=false:=decide_eq_false (by omega)
   go_wp2_with fail
   go_meet
   case rel=>exact⟨P,⟨Part.same (A:=Qa P) HZ.o HBD.o⟩,⟨Calm.refl P 1⟩,⟨by rw[HML.o,HMOST.o];omega,HNO.o⟩⟩
 case rest=>
  obtain⟨P1,HL1,HC1,HRM⟩:=hcut
  clear HHH
  obtain⟨wa,rfl⟩:∃wa,wa=wc:=⟨_,rfl⟩
  have HZ2:Sc (Ya P1 wa):=⟨HL1.o.1⟩
  have HPB1:Sc (P1.O.pb=pb):=⟨by rw[HC1.o.same.pb,HPB.o]⟩
  have HB2W:Sc (Below w.heap.size w wa->True):=⟨fun _=>trivial⟩
  have HIN:Sc (1<=n/\n<=P1.pages):=⟨h1,by rw[HC1.o.same.pages];exact HN2.o⟩
  obtain⟨z,hz⟩:∃z,(P1.pv n).1=z:=⟨_,rfl⟩
  obtain⟨l,hl⟩:∃l,(P1.pv n).2=l:=⟨_,rfl⟩
  have HPV:Sc (P1.pv n=(z,l)):=⟨by rw[<-hz,<-hl]⟩
  have HOK:Sc (OkP z l/\G6 l):=⟨by have:=HZ2.o.plain.ok n;rw[hz,hl]at this;exact this⟩
  have CR:Sc (Calls Tryz.prog 149 #[.pointer (some ⟨P1.D.db,0,none⟩),.int .i64 n] wa fun e w'=>∃v,e=.returned (.tuple #[v,.int .i64 0])/\RdB w' v (Yk z l)/\Below wa.heap.size wa w'):=⟨by
   have:=Q9v wa P1 n HZ2.o HIN.o.1 HIN.o.2 HRM.o.2
   rw[hz,hl]at this
   exact this⟩
  obtain⟨A2,q2,v2,_,_,c0,c1,c2,c3,c4,lt,_⟩:=HZ2.o.cells
  rw[HPB1.o]at c0 c1 c2 c3 c4 lt
  have HRS:Sc (wa.heap[b6]? =some (.cells #[.int .i64 0,.slice none 0 0] 197 (0,0))/\wa.heap[b6+1]? =some (.cells fz 41 (0,0))):=⟨Q8h (S:=(Qa P).U) (by rw[<-HB6.o];exact HP1.o) HL1.o.2.1 (fun hu=>by have:=(Qa P).lt HZ0.o _ hu;have:=HB6.o;omega) (fun hu=>by have:=(Qa P).lt HZ0.o _ hu;have:=HB6.o;omega)⟩
  clear hz hl
  go_wp2_with fail
  refine CR.o.mono ?_
  rintro e w3 ⟨v3,rfl,hr3,hb3⟩
  have HR3:=Q0 hr3
  have HB3:=Q0 hb3
  clear hr3 hb3 c0 c1 c2 c3 c4 lt
  go_wp2_with fail
  refine(Q9t w3 v3 z l HOK.o.1 HOK.o.2 HR3.o).mono ?_
  rintro e w4 ⟨A,k,c,rfl,ho4,hb4⟩
  have HO4:=Q0 ho4
  have HB4:Sc (Below wa.heap.size wa w4):=⟨Q5 HB3.o hb4⟩
  obtain⟨bx,hbx⟩:∃bx,w4.heap.size=bx:=⟨_,rfl⟩
  obtain⟨w5,hw5⟩:∃w5,w4.alloc (.cells #[.int .i64 z,.slice A k c] 197)=w5:=⟨_,rfl⟩
  have HC5:Sc (w5.heap[bx]? =some (.cells #[.int .i64 z,.slice A k c] 197 (0,0))):=⟨by
   rw[<-hw5,<-hbx]
   exact heap_alloc_new w4 _⟩
  have HB5:Sc (Below w4.heap.size w4 w5):=⟨by rw[<-hw5];exact Q3 (Below.refl _ _) _⟩
  have HB25:Sc (Below wa.heap.size wa w5):=⟨HB4.o.trans (HB5.o.mono HB4.o.size)⟩
  have HO5:Sc (Own Qj 2 227 wa.heap.size w5 (.slice A k c) l/\∀q,(Value.slice A k c).ownBlock=some q->q<w5.heap.size):=⟨(ho4.mono HB3.o.size).below HB5.o,fun q hq=>Nat.lt_of_lt_of_le (ho4.lt q hq).2 HB5.o.size⟩
  have HBXS:Sc (wa.heap.size<=bx/\bx<w5.heap.size):=⟨by have:=HB4.o.size;omega,Q6 HC5.o⟩
  obtain⟨A2,q2,v2,hvf2,hof2,c0,c1,c2,c3,c4,lt,fr3⟩:=((Qa P1).bel HZ2.o HB25.o).cells
  rw[HPB1.o]at c0 c1 c2 c3 c4 lt fr3
  obtain⟨m2,hm2⟩:∃m2,P1.O.fr.length=m2:=⟨_,rfl⟩
  rw[hm2]at hof2 c3
  have HM2:=Q0 hm2
  have HOF2:=Q0 hof2
  have hm8:m2<=8:=by have:=HRM.o.1;have:=HZ2.o.plain.most.2;omega
  have HMX:Sc (m2<=maxLen/\m2+1<=maxLen/\m2*40<=140737488355328/\(m2+1)*40<=140737488355328):=⟨by unfold maxLen;omega⟩
  obtain⟨x0,x1⟩:=Qf HC5.o
  have lx:=Q6 HC5.o
  have HSW:Sc (∀W,Below w5.heap.size w5 W->W.cell? ⟨pb,3,none⟩=some (.slice A2 m2 q2)/\W.cell? ⟨bx,0,none⟩=some (.int .i64 z)/\W.cell? ⟨bx,1,none⟩=some (.slice A k c)/\W.frozen? ⟨pb,3,none⟩=false):=⟨fun W hW=>⟨(hW.cell lt).trans c3,(hW.cell lx).trans x0,(hW.cell lx).trans x1,(World.frozen?_of_block (hW.block pb lt)).trans fr3⟩⟩
  have HE:Sc ((w5.alloc (.cells #[] 212)).ownsRow w5.heap.size 212 3 (.slice (some ⟨w5.heap.size,0,none⟩) 0 0) 0 []):=⟨World.ownsRow_made w5 #[] 0 (Nat.le_refl _) (by unfold maxLen;omega) rfl⟩
  have HEC:Sc (∀cs,((w5.alloc (.cells cs 212)).alloc (.cells #[] 212)).ownsRow w5.heap.size 212 3 (.slice (some ⟨w5.heap.size+1,0,none⟩) 0 0) 0 []):=⟨fun cs=>by
   have:=World.ownsRow_made (e:= 212) (size:=3) (base:=w5.heap.size) (w5.alloc (.cells cs 212)) #[] 0 (by simp) (by unfold maxLen;omega) rfl
   simpa using this⟩
  have HOFC:Sc (∀o1 o2,((w5.alloc o1).alloc o2).ownsRow 0 212 3 (.slice A2 m2 q2) m2 (flat Zv P1.O.fr)):=⟨fun o1 o2=>((hof2.alloc _).alloc _).rows hm2⟩
  have HOFA:Sc ((w5.alloc (.cells #[] 212)).ownsRow 0 212 3 (.slice A2 m2 q2) m2 (flat Zv P1.O.fr)):=⟨(hof2.alloc _).rows hm2⟩
  obtain⟨a3,a0,a1,_⟩:=HSW.o (w5.alloc (.cells #[] 212)) (Q3 (Below.refl _ _) _)
  have HFL:Sc (w5.heap.size<=(w5.alloc (.cells #[] 212)).heap.size):=⟨by simp⟩
  clear ho4 hb4 hof2 hvf2 hm2 c0 c1 c2 c4
  go_upto_region 16 with fail
  try rw[hw5]
  clear hbx hw5
  have HRS5:Sc (w5.heap[b6]? =some (.cells #[.int .i64 0,.slice none 0 0] 197 (0,0))/\w5.heap[b6+1]? =some (.cells fz 41 (0,0))):=⟨up HB25.o HRS.o.1,up HB25.o HRS.o.2⟩
  have HL5:Sc (Q8 (Qa P) (Qa P1) w1 w5):=⟨Part.Qs HL1.o HB25.o⟩
  have HPBX:Sc (pb<w.heap.size):=⟨by have:=(Qa P).lt HZ0.o P.O.pb (.inr (.inl rfl));rw[HPB.o]at this;exact this⟩
  go_cut [] from 74 to 87 (fun wx=>∃(P2:X9),Sc (Q8 (Qa P) (Qa P2) w1 wx)/\Sc (Calm P P2 1)/\Sc ((⟨n,z,A,k,c,l⟩:FrV)∈P2.O.fr)/\Sc (wx.heap[bx]? =some (.cells #[.int .i64 z,.slice A k c] 197 (0,0)))/\Sc (wx.heap[b6]? =some (.cells #[.int .i64 0,.slice none 0 0] 197 (0,0))/\wx.heap[b6+1]? =some (.cells fz 41 (0,0))))
  case first=>
   go_region_law
    (first
     |(refine Gf rfl (.tmp 75) (.tmp 79) 184 (by rfl) w5.heap.size 212 i0 (.agg #[.int .i64 0,.int .i64 0,.slice none 0 0]) 3 40 Tryz.underlying184 hi0 hz0 hz1 hz2 rfl (by decide) w5.heap.size (by rfl) (by first|with_reducible exact HE.o|with_reducible exact HE.o.drew) (.slice A2 m2 q2) m2 (flat Zv P1.O.fr) (by rfl) 0 (by first|with_reducible exact HOFA.o|with_reducible exact HOFA.o.drew) (G7.Xk _) HMX.o.1 HMX.o.2.2.1 (by first|with_reducible exact HFL.o|(simp)) ?_;intro A6 n6 k6 w6 g1 g2;have HX6:=Q0 (X8s HM2.o g1 (by first|with_reducible exact g2|with_reducible exact Zp g2));obtain⟨hn6,ho6,hb6⟩:=HX6.o;subst hn6;have HO6:=Q0 ho6;have HB6':=Q0 hb6;obtain⟨_,a0,a1,_⟩:=HSW.o w6 hb6;clear g1 g2 ho6 hb6 HX6)
     |(refine Gf rfl (.tmp 75) (.tmp 79) 184 (by rfl) w5.heap.size 212 i0 (.agg #[.int .i64 0,.int .i64 0,.slice none 0 0]) 3 40 Tryz.underlying184 hi0 hz0 hz1 hz2 rfl (by decide) w5.heap.size (by rfl) (by first|with_reducible exact World.ownsRow.alloc HE.o _|with_reducible exact(World.ownsRow.alloc HE.o _).drew) (.slice A2 m2 q2) m2 (flat Zv P1.O.fr) (by rfl) 0 (by first|with_reducible exact World.ownsRow.alloc HOFA.o _|with_reducible exact(World.ownsRow.alloc HOFA.o _).drew) (G7.Xk _) HMX.o.1 HMX.o.2.2.1 (by simp;omega) ?_;intro A6 n6 k6 w6 g1 g2;have HX6:=Q0 (X4y HM2.o g1 (by first|with_reducible exact g2|with_reducible exact Zp g2));obtain⟨hn6,ho6,hb6,h84⟩:=HX6.o;subst hn6;have HO6:=Q0 ho6;have HB6':=Q0 hb6;have H84:=Q0 h84;obtain⟨_,a0,a1,_⟩:=HSW.o w6 hb6;clear g1 g2 ho6 hb6 HX6 h84)
     |(refine Gf rfl (.tmp 75) (.tmp 79) 184 (by rfl) w5.heap.size 212 i0 (.agg #[.int .i64 0,.int .i64 0,.slice none 0 0]) 3 40 Tryz.underlying184 hi0 hz0 hz1 hz2 rfl (by decide) (w5.heap.size+1) (by rfl) (by first|with_reducible exact HEC.o _|with_reducible exact(HEC.o _).drew) (.slice A2 m2 q2) m2 (flat Zv P1.O.fr) (by rfl) 0 (by first|with_reducible exact HOFC.o _ _|with_reducible exact(HOFC.o _ _).drew) (G7.Xk _) HMX.o.1 HMX.o.2.2.1 (by simp;omega) ?_;intro A6 n6 k6 w6 g1 g2;have HX6:=Q0 (X4z HM2.o g1 (by first|with_reducible exact g2|with_reducible exact Zp g2));obtain⟨hn6,ho6,hb6,h84⟩:=HX6.o;subst hn6;have HO6:=Q0 ho6;have HB6':=Q0 hb6;have H84:=Q0 h84;obtain⟨_,a0,a1,_⟩:=HSW.o w6 hb6;clear g1 g2 ho6 hb6 HX6 h84)
     |(refine step_append_lies _ rfl (.tmp 80) (.tmp 84) 184 (by rfl) w5.heap.size 212 i0 (.agg #[.int .i64 0,.int .i64 0,.slice none 0 0]) 3 40 Tryz.underlying184 hi0 hz0 hz1 hz2 rfl (by decide) (.slice A6 m2 k6) m2 (flat Zv P1.O.fr) (by rfl) (by first|with_reducible exact(HO6.o.alloc _).rows HM2.o|with_reducible exact((HO6.o.alloc _).drew).rows HM2.o) ⟨_,0,none⟩ 1 1 (#[Value.int .i64 n,Value.int .i64 z,Value.slice A k c]:Array Value).toList (by rfl) (by rfl) (World.news_of_block (by first|with_reducible exact heap_alloc_new _ _)) (G7.one ⟨n,z,A,k,c,l⟩) Nat.one_pos HMX.o.2.1 HMX.o.2.2.2 (Nat.le_trans HB6'.o.size (by simp)) _ rfl ?_;intro g8 k8 w8 how hgr hat hlt8;have HX8:=Q0 (X8t (f:=⟨n,z,A,k,c,l⟩) HM2.o HO6.o HB6'.o how (by first|with_reducible exact hgr|with_reducible exact Zp hgr));obtain⟨a3,a0,a1,fz3⟩:=HSW.o w8 HX8.o.2;clear how hgr hat hlt8)
     |(refine step_append_lies _ rfl (.tmp 80) (.tmp 84) 184 (by rfl) w5.heap.size 212 i0 (.agg #[.int .i64 0,.int .i64 0,.slice none 0 0]) 3 40 Tryz.underlying184 hi0 hz0 hz1 hz2 rfl (by decide) (.slice A6 m2 k6) m2 (flat Zv P1.O.fr) (by rfl) (by first|with_reducible exact HO6.o.rows HM2.o|with_reducible exact(HO6.o.drew).rows HM2.o) ⟨_,0,none⟩ 1 1 (#[Value.int .i64 n,Value.int .i64 z,Value.slice A k c]:Array Value).toList (by rfl) (by rfl) (World.news_of_block (by first|with_reducible exact H84.o)) (G7.one ⟨n,z,A,k,c,l⟩) Nat.one_pos HMX.o.2.1 HMX.o.2.2.2 HB6'.o.size _ rfl ?_;intro g8 k8 w8 how hgr hat hlt8;have HX8:=Q0 (X5a (f:=⟨n,z,A,k,c,l⟩) HM2.o HO6.o HB6'.o how (by first|with_reducible exact hgr|with_reducible exact Zp hgr));obtain⟨a3,a0,a1,fz3⟩:=HSW.o w8 HX8.o.2;clear how hgr hat hlt8))
   all_goals
    have HB8:Sc (Below wa.heap.size wa w8):=⟨HB25.o.trans (HX8.o.2.mono HB25.o.size)⟩
    have HLF:=HZ2.o.own.Xf HB8.o (HX8.o.1.mono HB25.o.size) (fun f hf=>by
     rcases List.mem_append.1 hf with hf|hf
     ·exact .inl hf
     ·rw[List.mem_singleton.1 hf];exact .inr (HO5.o.1.below HX8.o.2)) (fun f hf q hq he=>by
     have h8:=(HX8.o.1.lt q he).1
     rcases List.mem_append.1 hf with hf|hf
     ·have:=(Xs P1.O).lt HZ2.o.own q (.inr (.inr (.inr ⟨f,hf,hq⟩)))
      have:=HB25.o.size
      omega
     ·rw[List.mem_singleton.1 hf]at hq
      have:=HO5.o.2 q hq
      omega)
    have HFIN:=Q0 (Part.trans HL1.o (HZ2.o.Q0j HLF rfl rfl (HZ2.o.plain.more (f:=⟨n,z,A,k,c,l⟩) ⟨by show(1:Int)<=n;have:=HIN.o.1;omega,by show(n:Int)<=P1.pages;have:=HIN.o.2;omega,HPV.o⟩ HRM.o.2 HRM.o.1)))
    have HKS:Sc (Kp (fun q=>q=pb) w8 (w8.setCell ⟨pb,3,none⟩ (.slice (some ⟨g8,0,none⟩) (m2+1) k8))):=⟨Kp.setCell w8 ⟨pb,3,none⟩ _⟩
    clear HLF
    go_wp2_with fail
    go_meet
    case rel=>
     refine⟨{P1 with O:={P1.O with U3:=(Value.slice (some ⟨g8,0,none⟩) (m2+1) k8).ownBlock,fr:=P1.O.fr++[⟨n,z,A,k,c,l⟩]}},⟨?_⟩,⟨⟨⟨HC1.o.same.pb,HC1.o.same.lb,HC1.o.same.most,HC1.o.same.L,HC1.o.same.pages,HC1.o.same.bl,HC1.o.same.pv,HC1.o.same.db⟩,HC1.o.tab,HC1.o.vm⟩⟩,⟨List.mem_append_right _ (List.mem_singleton.2 rfl)⟩,⟨HKS.o.at (up HX8.o.2 HC5.o) (by have:=HPBX.o;have:=HB1.o.size;have:=HL1.o.2.1.size;have:=HBXS.o.1;omega)⟩,⟨HKS.o.at (up HX8.o.2 HRS5.o.1) (by have:=HPBX.o;have:=HB6.o;omega),HKS.o.at (up HX8.o.2 HRS5.o.2) (by have:=HPBX.o;have:=HB6.o;omega)⟩⟩
     rw[show w8.setCell ⟨pb,3,none⟩ (.slice (some ⟨g8,0,none⟩) (m2+1) k8)=w8.setCell ⟨P1.O.pb,3,none⟩ (.slice (some ⟨g8,0,none⟩) (m2+1) k8) from by rw[HPB1.o]]
     exact HFIN.o
  case rest=>
   obtain⟨P2,HL2,HC2,HMM,HCX,HRX⟩:=hcut
   obtain⟨wb,rfl⟩:∃wb,wb=wc:=⟨_,rfl⟩
   clear x0 x1 a3 a0 a1 c3 lt fr3 lx
   obtain⟨x0,x1⟩:=Qf HCX.o
   have HQ:Sc (Below wb.heap.size wb wb):=⟨Below.refl _ _⟩
   have CNO:Sc (∀X,Below wb.heap.size wb X->Calls Tryz.prog 41 #[] X fun e w'=>e=.returned (X5 0)/\Below wb.heap.size wb w'):=⟨fun X hX=>(Vc X).mono fun e w' ⟨he,hb⟩=>⟨he,Q5 hX hb⟩⟩
   go_wp2_with fail
   go_region_law
    (first
     |(go_simp;go_at_call 41;go_loud (refine(CNO.o _ (by first|with_reducible exact HQ.o|with_reducible exact Below.drew HQ.o)).mono ?_;rintro e wt ⟨rfl,hq⟩;have HQ:=Q0 hq;obtain⟨a0,a1⟩:=Qf (up hq HCX.o);obtain⟨p0,p1,z0,z1,z2,y0,y1,y2,y3,y4,l6,l7⟩:=Ud (show wt.heap[b6]? =some (.cells #[.int .i64 0,.slice none 0 0] 197 (0,0))/\wt.heap[b6+1]? =some (.cells fz 41 (0,0)) from⟨up hq HRX.o.1,up hq HRX.o.2⟩);clear hq)))
   all_goals
    go_wp2
    refine bodyPost_ret (v:=.tuple #[Zn z (.slice A k c),X5 0]) (by simp[results,Tryz.results114,go_sem,p0,p1,z0,z1,z2]) rfl ⟨P2,⟨n,z,A,k,c,l⟩,rfl,?_,HC2.o,HMM.o,rfl⟩
    refine Part.boxed (A:=Qa P) HZ0.o HB1.o (Part.Qs HL2.o HQ.o) ?_
    have e1:=HBS.o
    have e2:=HB6.o
    repeat (first|with_reducible exact Kp.Vd|with_reducible refine Kp.drew ?_|with_reducible refine Kp.put ?_ ⟨by omega,by omega⟩ _)
theorem Q2i(w:World)(P:X9)(n hint:Nat)(h:Ya P w)(hvm:P.D.vm<=800000)(h1:1<=n)(h2:n<=P.pages)(hh:hint<=1000000):
  Calls Tryz.prog 114 #[.pointer (some ⟨P.O.pb,0,none⟩),.int .i64 n,.int .i64 hint] w fun e w'=>∃P' g,e=.returned (.tuple #[Zn g.lsn g.v,X5 0])/\Q8 (Qa P) (Qa P') w w'/\Calm P P' 1/\g∈P'.O.fr/\g.n=n:=by
 by_cases hf:∃f∈P.O.fr,f.n=n
 ·obtain⟨f,hf,hfn⟩:=hf
  exact(Q2w w P n hint f h hf hfn).mono fun e w' ⟨g,he,hl,hg,hgn⟩=>⟨P,g,he,hl,Calm.refl P 1,hg,hgn⟩
 ·exact Q4w w P n hint h hvm h1 h2 hh (fun f hm he=>hf ⟨f,hm,he⟩)
end
end Go.Proofs.YtoapihepdallbaaGreatDoor
