import Derived.Test.YtoapihepdallbaaGreatDoorP19
namespace Go.Proofs.YtoapihepdallbaaGreatDoor
open Go.RowKit
section
set_option maxHeartbeats 4000000
set_option maxRecDepth 4000
variable{β:Type}
theorem Q5g{l m:List (Int×β)}(hl:Qd l)(hm:Qd m)(h:∀x,x∈l↔x∈m):l=m:=by
 induction l generalizing m with
 |nil=>
  cases m with
  |nil=>rfl
  |cons y s=>exact absurd ((h y).2 List.mem_cons_self) (by simp)
 |cons x r ih=>
  cases m with
  |nil=>exact absurd ((h x).1 List.mem_cons_self) (by simp)
  |cons y s=>
   have hxy:x=y:=by
    rcases List.mem_cons.1 ((h x).1 List.mem_cons_self) with h1|h1
    ·exact h1
    ·rcases List.mem_cons.1 ((h y).2 List.mem_cons_self) with h2|h2
     ·exact h2.symm
     ·have:=hm.head x h1;have:=hl.head y h2;omega
   subst hxy
   congr 1
   refine ih hl.tail hm.tail fun z=>⟨fun hz=> ?_,fun hz=> ?_⟩
   ·rcases List.mem_cons.1 ((h z).1 (List.mem_cons_of_mem _ hz)) with h1|h1
    ·subst h1;have:=hl.head z hz;omega
    ·exact h1
   ·rcases List.mem_cons.1 ((h z).2 (List.mem_cons_of_mem _ hz)) with h1|h1
    ·subst h1;have:=hm.head z hz;omega
    ·exact h1
theorem Vb{l:List (Int×β)}(hr:Qd l){x y:Int×β}:y∈Qt l x↔y=x\/(y∈l/\y.1≠x.1):=by
 cases hh:has l x.1 with
 |false=>
  rw[Ex hh,Q0h]
  constructor
  ·rintro(h|h)
   ·exact .inl h
   ·exact .inr ⟨h,fun he=>by have:=Qy.2 ⟨y,h,he⟩;rw[hh]at this;cases this⟩
  ·rintro(h|h)
   ·exact .inl h
   ·exact .inr h.1
 |true=>
  obtain⟨z,hz,hk⟩:=(Zq hr x.1).1 hh
  rw[Vm hh]
  have hlt:=Ow hr hh
  constructor
  ·intro h
   obtain⟨t,ht⟩:=List.mem_iff_getElem?.1 h
   rw[List.getElem?_set]at ht
   by_cases hpt:pos l x.1=t
   ·rw[if_pos hpt,if_pos hlt]at ht
    injection ht with ht
    exact .inl ht.symm
   ·rw[if_neg hpt]at ht
    refine .inr ⟨List.mem_of_getElem? ht,fun he=> ?_⟩
    rcases Nat.lt_or_gt_of_ne hpt with h1|h1
    ·have:=hr.lt h1 hz ht;omega
    ·have:=hr.lt h1 ht hz;omega
  ·rintro(h|⟨h,hne⟩)
   ·subst h
    exact List.mem_iff_getElem?.2 ⟨pos l y.1,by rw[List.getElem?_set,if_pos rfl,if_pos hlt]⟩
   ·obtain⟨t,ht⟩:=List.mem_iff_getElem?.1 h
    refine List.mem_iff_getElem?.2 ⟨t,?_⟩
    rw[List.getElem?_set,if_neg (fun he=> ?_)]
    ·exact ht
    ·subst he
     rw[hz]at ht
     injection ht with ht
     subst ht
     exact hne hk
theorem Zi{l:List (Int×β)}(hr:Qd l){k:Int}{y:Int×β}:y∈X4 l k↔y∈l/\y.1≠k:=by
 cases hh:has l k with
 |false=>
  rw[drop'_no hh]
  exact⟨fun h=>⟨h,fun he=>by have:=Qy.2 ⟨y,h,he⟩;rw[hh]at this;cases this⟩,fun h=>h.1⟩
 |true=>
  have:=Y5i hr hh (y:=y)
  unfold X4
  rw[if_pos hh]
  exact this
def X3v(r:Q9)(lsn last next:Int):Q9×Bool:=if r.kind=2 then(G2 r lsn last next,true) else(Z9,false)
theorem X2v(w:World)(r:Q9)(lsn last next:Int):
  Calls Tryz.prog 145 #[Yg r,.int .i64 lsn,.int .i64 last,.int .i64 next] w fun e w'=>e=.returned (.tuple #[Yg (X3v r lsn last next).1,.bool (X3v r lsn last next).2])/\Below w.heap.size w w':=by
 unfold X3v
 by_cases hk:r.kind=2
 ·rw[if_pos hk]
  obtain⟨kind,txn,page,prev,nx,key,had,has,old,new⟩:=r
  subst hk
  go_enter Tryz.func145,Tryz.ntmps145
  go_wp2
  refine bodyPost_ret (v:=.tuple #[Yg (G2 ⟨2,txn,page,prev,nx,key,had,has,old,new⟩ lsn last next),.bool true]) (by simp[results,Tryz.results145,go_sem]) rfl ⟨rfl,?_⟩
  exact((Below.refl _ _).alloc (Nat.le_refl _) _).alloc (by simp) _
 ·rw[if_neg hk]
  go_enter Tryz.func145,Tryz.ntmps145
  go_wp2
  refine bodyPost_ret (v:=.tuple #[Yg Z9,.bool false]) (by simp[results,Tryz.results145,go_sem]) rfl ⟨rfl,?_⟩
  exact((Below.refl _ _).alloc (Nat.le_refl _) _).alloc (by simp) _
def X7e(base:Nat)(q:Int×List (Int×Int)×Bool×Int)(w:World)(e:Ending)(w':World):Prop:=
 ∃A k c,e=.returned (.tuple #[Zn q.1 (.slice A k c),.bool q.2.2.1,.int .i64 q.2.2.2])/\Own Qj 2 227 base w' (.slice A k c) q.2.1/\Below w.heap.size w w'
theorem Q2x(w:World)(base b2:Nat)(n:Int)(v:Value)(l:List (Int×Int))(lsn:Int)(r:Q9)(hown:Own Qj 2 227 base w v l)(hb0:b2<=w.heap.size)(hr:Qd l)(hlen:l.length<=100000)(hk:r.kind=2\/r.kind=3)(hn:n<lsn)(hh:r.has=false):
  Calls Tryz.prog 159 #[Zn n v,.int .i64 lsn,Yg r] w (X7e b2 (lsn,X4 l r.key,true,0) w):=by
 obtain⟨A,k,c,rfl⟩:=hown.slice3
 have HL:=Q0 hlen
 have HR:=Q0 hr
 have HB0:=Q0 hb0
 have H3:=Q0 (X7m w (.cells #[.int .i64 n,.slice A k c] 197) (.cells (Qe r) 49) (.cells #[.int .i64 0,.slice none 0 0] 197))
 have HOA:Sc (Own Qj 2 227 base (((w.alloc (.cells #[.int .i64 n,.slice A k c] 197)).alloc (.cells (Qe r) 49)).alloc (.cells #[.int .i64 0,.slice none 0 0] 197)) (.slice A k c) l):=⟨((hown.alloc _).alloc _).alloc _⟩
 have HBW:Sc (Below w.heap.size w (((w.alloc (.cells #[.int .i64 n,.slice A k c] 197)).alloc (.cells (Qe r) 49)).alloc (.cells #[.int .i64 0,.slice none 0 0] 197))):=⟨Q3 (Q3 (Q3 (Below.refl _ _) _) _) _⟩
 have hn2:¬lsn<=n:=by omega
 have HKK:=Q0 hk
 clear hown hr hlen hb0 hk hn
 go_enter Tryz.func159,Tryz.ntmps159
 rcases HKK.o with hk|hk
 all_goals
  go_wp2_with fail
  refine(Du _ base n _ l r.key HOA.o HR.o (by have:=HL.o;omega)).mono ?_
  rintro e w1 ⟨A1,k1,c1,rfl,ho,hb⟩
  have hz:=(hb.block _ (Q6 H3.o.2.2)).trans H3.o.2.2
  have hrc:=(hb.block _ (Q6 H3.o.2.1)).trans H3.o.2.1
  have hpg:=(hb.block _ (Q6 H3.o.1)).trans H3.o.1
  obtain⟨r0,r5,r7,r9⟩:=Q7y hrc
  obtain⟨p0,p1⟩:=Qf hpg
  have HB:=Q0 hb
  have HZ:=Q0 hz
  have HO:=Q0 ho
  have HRC:=Q0 hrc
  have HO2:Sc (Own Qj 2 227 base (w1.alloc (.cells #[.int .i64 n,.slice A1 k1 c1] 197)) (.slice A k c) l):=⟨(HOA.o.below hb).alloc _⟩
  have l1:=Q6 hrc
  have l2:=Q6 hz
  have l3:w.heap.size<w1.heap.size:=by omega
  clear ho hb hz hrc hpg
  obtain⟨z0,z1⟩:=Qf HZ.o
  have y0:=Q2 HZ.o 0
  have y1:=Q2 HZ.o 1
  go_wp2
  refine bodyPost_ret (v:=.tuple #[Zn lsn (.slice A1 k1 c1),.bool true,.int .i64 0]) (by simp[results,Tryz.results159,go_sem,z0,z1,l2]) rfl ⟨A1,k1,c1,rfl,?_⟩
  have hx:=Et (HBW.o.trans (HB.o.mono HBW.o.size)) HO.o (u0:=.int .i64 lsn) (u1:=.slice A1 k1 c1) (z:=w.heap.size+1+1) (by omega) (Q6 H3.o.2.2)
  exact⟨(hx.1.alloc _).mono HB0.o,hx.2.alloc hx.2.size _⟩
theorem Q5d(w:World)(base b2:Nat)(n:Int)(v:Value)(l:List (Int×Int))(lsn:Int)(r:Q9)(hown:Own Qj 2 227 base w v l)(hb0:b2<=w.heap.size)(hr:Qd l)(hlen:l.length<=100000)(hk:r.kind=2\/r.kind=3)(hn:n<lsn)(hh:r.has=true)(hfit:has l r.key=true\/l.length<20):
  Calls Tryz.prog 159 #[Zn n v,.int .i64 lsn,Yg r] w (X7e b2 (lsn,Qt l (r.key,r.new),true,0) w):=by
 obtain⟨A,k,c,rfl⟩:=hown.slice3
 have HL:=Q0 hlen
 have HR:=Q0 hr
 have HB0:=Q0 hb0
 have H3:=Q0 (X7m w (.cells #[.int .i64 n,.slice A k c] 197) (.cells (Qe r) 49) (.cells #[.int .i64 0,.slice none 0 0] 197))
 have HOA:Sc (Own Qj 2 227 base (((w.alloc (.cells #[.int .i64 n,.slice A k c] 197)).alloc (.cells (Qe r) 49)).alloc (.cells #[.int .i64 0,.slice none 0 0] 197)) (.slice A k c) l):=⟨((hown.alloc _).alloc _).alloc _⟩
 have HBW:Sc (Below w.heap.size w (((w.alloc (.cells #[.int .i64 n,.slice A k c] 197)).alloc (.cells (Qe r) 49)).alloc (.cells #[.int .i64 0,.slice none 0 0] 197))):=⟨Q3 (Q3 (Q3 (Below.refl _ _) _) _) _⟩
 have HF:=Q0 hfit
 clear hfit
 have hn2:¬lsn<=n:=by omega
 have HKK:=Q0 hk
 clear hown hr hlen hb0 hk hn
 go_enter Tryz.func159,Tryz.ntmps159
 rcases HKK.o with hk|hk
 all_goals
  go_wp2_with fail
  refine(Du _ base n _ l r.key HOA.o HR.o (by have:=HL.o;omega)).mono ?_
  rintro e w1 ⟨A1,k1,c1,rfl,ho,hb⟩
  have hz:=(hb.block _ (Q6 H3.o.2.2)).trans H3.o.2.2
  have hrc:=(hb.block _ (Q6 H3.o.2.1)).trans H3.o.2.1
  have hpg:=(hb.block _ (Q6 H3.o.1)).trans H3.o.1
  obtain⟨r0,r5,r7,r9⟩:=Q7y hrc
  obtain⟨p0,p1⟩:=Qf hpg
  have HB:=Q0 hb
  have HZ:=Q0 hz
  have HO:=Q0 ho
  have HRC:=Q0 hrc
  have HO2:Sc (Own Qj 2 227 base (w1.alloc (.cells #[.int .i64 n,.slice A1 k1 c1] 197)) (.slice A k c) l):=⟨(HOA.o.below hb).alloc _⟩
  have l1:=Q6 hrc
  have l2:=Q6 hz
  have l3:w.heap.size<w1.heap.size:=by omega
  clear ho hb hz hrc hpg
  go_wp2_with fail
  refine(X6b _ base n _ l r.key r.new HO2.o HR.o HL.o).mono ?_
  rintro e w2 hp
  obtain⟨A2,k2,c2,rfl,ho,hb⟩:=Jl.fits HF.o hp
  have hz:=(hb.block _ (by have:=Q6 HZ.o;simp;omega)).trans ((heap_alloc_old w1 (.cells #[.int .i64 n,.slice A1 k1 c1] 197) (Q6 HZ.o)).trans HZ.o)
  have hq:=(hb.block _ (by simp)).trans (heap_alloc_new w1 (.cells #[.int .i64 n,.slice A1 k1 c1] 197))
  obtain⟨z0,z1⟩:=Qf hz
  obtain⟨q0,q1⟩:=Qf hq
  have y0:=Q2 hz 0
  have y1:=Q2 hz 1
  have x0:=Q2 hq 0
  have x1:=Q2 hq 1
  have HO4:=Q0 ho
  have HB2:=Q0 hb
  have hsz:=Q6 hq
  have hsz2:=Q6 hz
  have hne:¬w1.heap.size=w.heap.size+1+1:=by omega
  have hne2:¬w.heap.size+1+1=w1.heap.size:=by omega
  have HBA:Sc (Below w.heap.size w w2):=⟨(HBW.o.trans (HB.o.mono HBW.o.size)).alloc (by omega) _|>.trans (HB2.o.mono (by simp;omega))⟩
  clear ho hb hz hq r0 r5 r7 r9 p0 p1 hp
  go_wp2
  refine bodyPost_ret (v:=.tuple #[Zn lsn (.slice A2 k2 c2),.bool true,.int .i64 0]) (by simp[results,Tryz.results159,go_sem,z0,z1,hsz2]) rfl ⟨A2,k2,c2,rfl,?_⟩
  have e1:w1.heap.size+1=(w1.alloc (.cells #[.int .i64 n,.slice A1 k1 c1] 197)).heap.size:=by simp
  have ha:w.heap.size<=w1.heap.size:=by omega
  have hb:w.heap.size<=w.heap.size+1+1:=by omega
  have hB:=HB0.o
  refine⟨((((((HO4.o.low ?_ _).low ?_ _).low ?_ _).low ?_ _).low ?_ _).mono ?_).alloc _,Q3 (((((HBA.o.setCell ha _).setCell ha _).setCell ha _).setCell hb _).setCell hb _) _⟩
  all_goals (rw[<-e1];show _<=_;(try simp only[]);omega)
end
section
theorem Q1l{b:Int}:∀(L:List Q9) (lsn:Int) (r:Q9) (s s':An),Xz b lsn L s=(none,s')->(Xc b (lsn+L.length) r s').1=true->Xz b lsn (L++[r]) s=(none,(Xc b (lsn+L.length) r s').2)
 |[],lsn,r,s,s',h,hr=>by
  rw[Xz]at h
  injection h with _ h
  subst h
  simp only[List.length_nil,Int.ofNat_zero,Int.add_zero]at hr ⊢
  rw[List.nil_append,Xz,if_pos hr,Xz]
 |q::L,lsn,r,s,s',h,hr=>by
  rw[Xz]at h
  split at h
  ·rename_i hq
   have hl:lsn+((q::L).length:Int)=lsn+1+(L.length:Int):=by rw[List.length_cons];omega
   rw[hl]at hr ⊢
   rw[List.cons_append,Xz,if_pos hq]
   exact Q1l L (lsn+1) r _ s' h hr
  ·injection h with h _
   cases h
def Dz(lsn:Int)(r:Q9)(t:List TX)(m:Int)(t':List TX)(m':Int):Prop:=∀d,∃d',Xc 0 lsn r ⟨t,m,d,false⟩=(true,⟨t',m',d',false⟩)
def Gl(L:List Q9)(t:List TX)(m:Int):Prop:=∃d,Xz 0 1 L (An.zero false)=(none,⟨t,m,d,false⟩)
def X0s(L:List Q9)(ck:Int)(t:List TX)(m:Int):Prop:=ck=0\/∃r d,Qx L 0 ck=some r/\r.kind=7/\Xz 0 (ck+1) (L.drop ck.toNat) (An.zero true)=(none,⟨t,m,d,false⟩)
variable{L:List Q9}{r:Q9}{t t':List TX}{m m' ck lsn:Int}
theorem Gl.nil:Gl [] [] 0:=⟨[],rfl⟩
theorem Gl.snoc(h:Gl L t m)(hs:Dz (L.length+1) r t m t' m'):Gl (L++[r]) t' m':=by
 obtain⟨d,hd⟩:=h
 obtain⟨d',he⟩:=hs d
 have he':Xc 0 (1+(L.length:Int)) r ⟨t,m,d,false⟩=(true,⟨t',m',d',false⟩):=by rw[Int.add_comm];exact he
 refine⟨d',?_⟩
 rw[Q1l L 1 r _ _ hd (by rw[he']),he']
theorem E0{l:Int}{q:Q9}(h:Qx L 0 l=some q)(M:List Q9):Qx (L++M) 0 l=some q:=by
 have hr:=Yo h
 unfold Qx at h ⊢
 rw[if_pos (by omega)]at h
 rw[if_pos (by rw[List.length_append];omega),List.getElem?_append_left (by omega)]
 exact h
theorem Vi:Qx (L++[r]) 0 ((L.length:Int)+1)=some r:=by
 unfold Qx
 rw[if_pos (by rw[List.length_append];simp)]
 have:((L.length:Int)+1 - 0 - 1).toNat=L.length:=by omega
 rw[this,List.getElem?_append_right (Nat.le_refl _)]
 simp
theorem Ji{l:Int}{q:Q9}(h:Qx (L++[r]) 0 l=some q):(l<=L.length/\Qx L 0 l=some q)\/(l=L.length+1/\q=r):=by
 have hr:=Yo h
 rw[List.length_append,List.length_singleton]at hr
 rcases(by omega:l=(L.length:Int)+1\/l<=L.length) with he|he
 ·subst he
  rw[Vi]at h
  injection h with h
  exact .inr ⟨rfl,h.symm⟩
 ·refine .inl ⟨he,?_⟩
  unfold Qx at h ⊢
  rw[if_pos (by rw[List.length_append];omega),List.getElem?_append_left (by omega)]at h
  rw[if_pos (by omega)]
  exact h
theorem X0s.snoc(h:X0s L ck t m)(hs:Dz (L.length+1) r t m t' m'):X0s (L++[r]) ck t' m':=by
 rcases h with h|⟨q,d,hq,hk,hd⟩
 ·exact .inl h
 ·obtain⟨d',he⟩:=hs d
  have hr:=Yo hq
  have hl:ck+1+((L.drop ck.toNat).length:Int)=L.length+1:=by rw[List.length_drop];omega
  refine .inr ⟨q,d',E0 hq _,hk,?_⟩
  rw[List.drop_append_of_le_length (by omega),Q1l _ _ r _ _ hd (by rw[hl,he]),hl,he]
theorem Q8n(h:7<=r.kind):Dz lsn r t m t m:=fun d=>⟨d,by unfold Xc;rw[if_neg (by simp),if_pos h]⟩
theorem X0g(hk:r.kind=1)(hn:has t r.txn=false):Dz lsn r t m (Qt t (r.txn,0,lsn,0)) (max m r.txn):=fun d=>⟨d,by
 unfold Xc
 rw[if_neg (by simp),if_neg (by omega)]
 unfold Yu
 rw[if_pos hk,hn]
 rfl⟩
theorem Z3(hr:Qd t){x:TX}(hx:x∈t):has t x.1=true/\t[pos t x.1]? =some x/\got t x.1=x:=by
 have hh:has t x.1=true:=Qy.2 ⟨x,hx,rfl⟩
 obtain⟨y,hy,hk⟩:=(Zq hr x.1).1 hh
 have he:=hr.Gb (List.mem_of_getElem? hy) hx hk
 subst he
 exact⟨hh,hy,by unfold got;rw[if_pos hh,hy];rfl⟩
theorem Ez(hr:Qd t){x:TX}(hx:x∈t)(hm:x.1<=m)(h1:r.txn=x.1)(h2:r.prev=x.2.2.1)(hk:r.kind≠1/\r.kind≠6/\r.kind<7)(hgood:if r.kind=3 then x.2.1≠1/\r.next<lsn else x.2.1=0):
  Dz lsn r t m (upd t x.1 (fun _=>(Yt lsn r x).2)) m:=fun d=>by
 obtain⟨hh,hp,hg⟩:=Z3 hr hx
 refine⟨if r.kind=2\/r.kind=3 then add d (r.page,lsn) else d,?_⟩
 have hset:Qt t (Yt lsn r x)=upd t x.1 (fun _=>(Yt lsn r x).2):=by
  rw[Za (x:=x) _ hh hp,Vm (show has t (Yt lsn r x).1=true from hh)]
  rfl
 unfold Xc
 rw[if_neg (by simp),if_neg (by omega)]
 unfold Yu
 rw[if_neg hk.1]
 show(if has t r.txn=false\/r.prev≠(got t r.txn).2.2.1 then _ else _)=_
 rw[h1,hg,if_neg (by rw[hh,h2];simp),if_neg hk.2.1]
 refine Prod.ext ?_ ?_
 ·show(if r.kind=3 then _ else _)=true
  split
  ·rename_i h3
   rw[if_pos h3]at hgood
   simp[hgood.1,hgood.2]
  ·rename_i h3
   rw[if_neg h3]at hgood
   simp[hgood]
 ·show An.mk _ _ _ _=An.mk _ _ _ _
  rw[hset]
  congr 1
  exact Int.max_eq_left hm
theorem X6m(hr:Qd t){x:TX}(hx:x∈t)(h1:r.txn=x.1)(h2:r.prev=x.2.2.1)(hk:r.kind=6):Dz lsn r t m (X4 t x.1) m:=fun d=>by
 obtain⟨hh,hp,hg⟩:=Z3 hr hx
 refine⟨d,?_⟩
 unfold Xc
 rw[if_neg (by simp),if_neg (by omega)]
 unfold Yu
 rw[if_neg (by omega)]
 show(if has t r.txn=false\/r.prev≠(got t r.txn).2.2.1 then _ else _)=_
 rw[h1,hg,if_neg (by rw[hh,h2];simp),if_pos hk]
theorem Y6f{β:Type}{l:List (Int×β)}(hr:Qd l)(k:Int)(f g:β->β):upd (upd l k f) k g=upd l k (fun y=>g (f y)):=by
 cases hh:has l k with
 |false=>rw[E8 f hh,E8 g hh,E8 _ hh]
 |true=>
  obtain⟨x,hx,hk⟩:=(Zq hr k).1 hh
  have h2:=Jw hr k f
  have hm:(x.1,f x.2)∈upd l k f:=by rw[Za f hh hx];exact List.mem_of_getElem? (i:=pos l k) (by rw[List.getElem?_set_self (by exact(List.getElem?_eq_some_iff.1 hx).1)])
  have hpos:pos (upd l k f) k=pos l k:=by
   have:∀(l m:List (Int×β)),m.map (·.1)=l.map (·.1)->pos m k=pos l k:=fun l m h=>by
    unfold pos
    have e:∀q:List (Int×β),q.countP (fun x=>decide (x.1<k))=(q.map (·.1)).countP (fun x=>decide (x<k)):=fun q=>by rw[List.countP_map];rfl
    rw[e,e,h]
   refine this l _ ?_
   rw[Za f hh hx]
   exact Er hx rfl
  have hat:(upd l k f)[pos (upd l k f) k]? =some (x.1,f x.2):=by
   rw[hpos,Za f hh hx,List.getElem?_set_self (List.getElem?_eq_some_iff.1 hx).1]
  have hh2:has (upd l k f) k=true:=Qy.2 ⟨_,hm,hk⟩
  rw[Za g hh2 hat,hpos,Za (fun y=>g (f y)) hh hx,Za f hh hx,List.set_set]
theorem U5{β:Type}{l:List (Int×β)}(hr:Qd l){k:Int}{f:β->β}{y:Int×β}:y∈upd l k f↔(y∈l/\y.1≠k)\/∃x∈l,x.1=k/\y=(x.1,f x.2):=by
 cases hh:has l k with
 |false=>
  rw[E8 f hh]
  have hno:∀x∈l,x.1≠k:=fun x hx he=>by rw[Qy.2 ⟨x,hx,he⟩]at hh;cases hh
  exact⟨fun h=> .inl ⟨h,hno y h⟩,fun h=>h.elim (·.1) (fun⟨x,hx,hk,_⟩=>absurd hk (hno x hx))⟩
 |true=>
  obtain⟨x,hx,hk⟩:=(Zq hr k).1 hh
  have hxm:=List.mem_of_getElem? hx
  have e:upd l k f=Qt l (x.1,f x.2):=by rw[Za f hh hx,Vm (by rw[show(x.1,f x.2).1=k from hk];exact hh),show(x.1,f x.2).1=k from hk]
  rw[e,Vb hr]
  constructor
  ·rintro(h|⟨h1,h2⟩)
   ·exact .inr ⟨x,hxm,hk,h⟩
   ·exact .inl ⟨h1,fun he=>h2 (by rw[he];exact hk.symm)⟩
  ·rintro(⟨h1,h2⟩|⟨z,hz,hzk,he⟩)
   ·exact .inr ⟨h1,fun he=>h2 (by rw[he];exact hk)⟩
   ·have:=hr.Gb hz hxm (by rw[hzk,hk])
    subst this
    exact .inl he
theorem Cy{β:Type}{l:List (Int×β)}(hr:Qd l)(k i:Int)(f:β->β):has (upd l k f) i=has l i:=by
 rw[Bool.eq_iff_iff,Qy,Qy]
 constructor
 ·rintro⟨y,hy,hi⟩
  rcases(U5 hr).1 hy with ⟨h1,_⟩|⟨x,hx,_,rfl⟩
  ·exact⟨y,h1,hi⟩
  ·exact⟨x,hx,hi⟩
 ·rintro⟨x,hx,hi⟩
  by_cases hk:x.1=k
  ·exact⟨(x.1,f x.2),(U5 hr).2 (.inr ⟨x,hx,hk,rfl⟩),hi⟩
  ·exact⟨x,(U5 hr).2 (.inl ⟨hx,hk⟩),hi⟩
end
section
def V7(L:List Q9)(id n:Int):Prop:=n=0\/∃p,Qx L 0 n=some p/\p.kind=2/\p.txn=id
def Uu(L:List Q9)(id n:Int):Prop:=∃p,Qx L 0 n=some p/\1<=p.kind/\p.kind<=5/\p.txn=id
def Zr(key pages:Int):Int:=1+(key % 4294967296*2654435761 % 4294967296 / 65536) % max pages 1
theorem Q1i(key:Int){pages:Int}(h:1<=pages):1<=Zr key pages/\Zr key pages<=pages:=by
 unfold Zr
 rw[Int.max_eq_left h]
 have h1:=Int.emod_nonneg (key % 4294967296*2654435761 % 4294967296 / 65536) (by omega:pages≠0)
 have h2:=Int.emod_lt_of_pos (key % 4294967296*2654435761 % 4294967296 / 65536) (by omega:0<pages)
 omega
structure Cp(pages:Int)(L:List Q9)(lsn:Int)(r:Q9):Prop where
 Jo:Qq r=true
 page:r.kind=2\/r.kind=3\/r.kind=9->r.page<=pages
 back:2<=r.kind->r.kind<=5->r.prev<lsn/\Uu L r.txn r.prev
 next:r.kind=3->r.next<lsn/\V7 L r.txn r.next
 place:r.kind=2->r.page=Zr r.key pages
 Y6g:r.kind=2-> -9223372036854775808<=r.old/\r.old<=9223372036854775807
def Dx(pages:Int)(L:List Q9):Prop:=∀lsn r,Qx L 0 lsn=some r->Cp pages L lsn r
variable{L:List Q9}{r:Q9}{pages id n lsn:Int}
theorem V7.snoc(h:V7 L id n)(M:List Q9):V7 (L++M) id n:=h.imp_right fun⟨p,h1,h2⟩=>⟨p,E0 h1 M,h2⟩
theorem Uu.snoc(h:Uu L id n)(M:List Q9):Uu (L++M) id n:=by
 obtain⟨p,h1,h2⟩:=h
 exact⟨p,E0 h1 M,h2⟩
theorem Cp.snoc(h:Cp pages L lsn r)(M:List Q9):Cp pages (L++M) lsn r:=
 ⟨h.Jo,h.page,fun h1 h2=>⟨(h.back h1 h2).1,(h.back h1 h2).2.snoc M⟩,fun h1=>⟨(h.next h1).1,(h.next h1).2.snoc M⟩,h.place,h.Y6g⟩
theorem Dx.snoc(h:Dx pages L)(hr:Cp pages L (L.length+1) r):Dx pages (L++[r]):=fun lsn q hq=>by
 rcases Ji hq with ⟨_,hq⟩|⟨rfl,rfl⟩
 ·exact(h lsn q hq).snoc _
 ·exact hr.snoc _
theorem V7.range(h:V7 L id n):0<=n/\n<=L.length:=by
 rcases h with rfl|⟨p,h1,_⟩
 ·omega
 ·have:=Yo h1;omega
theorem Uu.range(h:Uu L id n):1<=n/\n<=L.length:=by
 obtain⟨p,h1,_⟩:=h
 exact Yo h1
theorem Y5m(h:Dx pages L):∀(k:Nat) (lsn:Int),lsn.toNat<=k->(lsn=0\/Uu L id lsn)->∃n,Yp L lsn n/\V7 L id n/\n<=lsn:=by
 intro k
 induction k with
 |zero=>
  intro lsn hk hl
  rcases hl with rfl|ho
  ·exact⟨0,.zero,.inl rfl,Int.le_refl _⟩
  ·have:=ho.range;omega
 |succ k ih=>
  intro lsn hk hl
  rcases hl with rfl|ho
  ·exact⟨0,.zero,.inl rfl,Int.le_refl _⟩
  ·have hrg:=ho.range
   obtain⟨p,h1,h2,h3,h4⟩:=ho
   have hw:=h lsn p h1
   rcases(by omega:p.kind=1\/p.kind=2\/p.kind=3\/p.kind=4\/p.kind=5) with hk1|hk1|hk1|hk1|hk1
   ·exact⟨0,.begin_ lsn p h1 hk1,.inl rfl,by omega⟩
   ·exact⟨lsn,.set lsn p h1 hk1,.inr ⟨p,h1,hk1,h4⟩,Int.le_refl _⟩
   ·obtain⟨hb1,hb2⟩:=hw.next hk1
    have hr2:=hb2.range
    rw[h4]at hb2
    obtain⟨n,hn1,hn2,hn3⟩:=ih p.next (by omega) (hb2.imp_right fun⟨q,g1,g2,g3⟩=>⟨q,g1,by omega,by omega,g3⟩)
    exact⟨n,.clr lsn n p h1 hk1 hr2.1 hb1 hn1,hn2,by omega⟩
   ·obtain⟨hb1,hb2⟩:=hw.back (by omega) (by omega)
    have hr2:=hb2.range
    rw[h4]at hb2
    obtain⟨n,hn1,hn2,hn3⟩:=ih p.prev (by omega) (.inr hb2)
    exact⟨n,.skip lsn n p h1 (.inl hk1) (by omega) hb1 hn1,hn2,by omega⟩
   ·obtain⟨hb1,hb2⟩:=hw.back (by omega) (by omega)
    have hr2:=hb2.range
    rw[h4]at hb2
    obtain⟨n,hn1,hn2,hn3⟩:=ih p.prev (by omega) (.inr hb2)
    exact⟨n,.skip lsn n p h1 (.inr hk1) (by omega) hb1 hn1,hn2,by omega⟩
theorem X2f(h:Dx pages L){q:Q9}(hq:Qx L 0 n=some q)(hk:q.kind=2):0<=q.prev/\q.prev<n/\∃m,Yp L q.prev m/\V7 L q.txn m/\m<n:=by
 obtain⟨hb1,hb2⟩:=(h n q hq).back (by omega) (by omega)
 have hr:=hb2.range
 obtain⟨m,h1,h2,h3⟩:=Y5m h q.prev.toNat q.prev (Nat.le_refl _) (.inr hb2)
 exact⟨by omega,hb1,m,h1,h2,by omega⟩
theorem Y1m(h:Dx pages L):∀(k:Nat) (n:Int),n.toNat<=k->V7 L id n->∃l,Vs L n l:=by
 intro k
 induction k with
 |zero=>
  intro n hk hs
  have:=hs.range
  obtain rfl:n=0:=by omega
  exact⟨[],.nil⟩
 |succ k ih=>
  intro n hk hs
  rcases hs with rfl|⟨p,h1,h2,h3⟩
  ·exact⟨[],.nil⟩
  ·obtain⟨g1,g2,m,g3,g4,g5⟩:=X2f h h1 h2
   rw[h3]at g4
   obtain⟨l,hl⟩:=ih m (by omega) g4
   exact⟨n::l,.cons n m p l h1 g1 g2 g3 hl⟩
theorem X9n(hs:V7 L id n):Yp L n n:=by
 rcases hs with rfl|⟨p,h1,h2,_⟩
 ·exact .zero
 ·exact .set n p h1 h2
end
def lead:List Int->Int->Nat
 |[],_=>0
 |x::r,n=>if x<n then lead r n+1 else 0
theorem Q0d:∀(l:List Int) (n:Int),lead l n<=l.length
 |[],_=>Nat.le_refl _
 |x::r,n=>by
  unfold lead
  have:=Q0d r n
  split
  ·simp;omega
  ·omega
theorem Q3j:∀{l:List Int} {n:Int} {j:Nat} {x:Int},l[j]? =some x->j<lead l n->x<n
 |[],_,_,_,h,_=>by simp at h
 |y::r,n,0,x,h,hj=>by
  have:y=x:=by simpa using h
  subst this
  unfold lead at hj
  split at hj
  ·assumption
  ·omega
 |y::r,n,j+1,x,h,hj=>by
  unfold lead at hj
  split at hj
  ·exact Q3j (l:=r) (n:=n) (j:=j) (by simpa using h) (by omega)
  ·omega
theorem Q3i:∀{l:List Int} {n:Int} {x:Int},l[lead l n]? =some x->¬x<n
 |[],_,_,h=>by simp at h
 |y::r,n,x,h=>by
  unfold lead at h
  split at h
  ·exact Q3i (l:=r) (by simpa using h)
  ·have:y=x:=by simpa using h
   subst this
   assumption
def rin(l:List Int)(n:Int):List Int:=if l[lead l n]? =some n then l else l.take (lead l n)++n::l.drop (lead l n)
theorem Q3l{l:List Int}{n x:Int}:x∈rin l n↔x=n\/x∈l:=by
 unfold rin
 split
 ·rename_i h
  have:=List.mem_of_getElem? h
  constructor
  ·exact .inr
  ·rintro(rfl|h)
   ·exact this
   ·exact h
 ·rw[List.mem_append,List.mem_cons]
  conv=>rhs;rw[<-List.take_append_drop (lead l n) l,List.mem_append]
  constructor
  ·rintro(h|h|h)
   ·exact .inr (.inl h)
   ·exact .inl h
   ·exact .inr (.inr h)
  ·rintro(h|h|h)
   ·exact .inr (.inl h)
   ·exact .inl h
   ·exact .inr (.inr h)
theorem Ce(l:List Int)(n:Int):l.length<=(rin l n).length/\(rin l n).length<=l.length+1:=by
 unfold rin
 split
 ·exact⟨Nat.le_refl _,Nat.le_succ _⟩
 ·have:=Q0d l n
  simp;omega
set_option maxRecDepth 4000 in
set_option maxHeartbeats 4000000 in
theorem E4(w:World)(base:Nat)(v:Value)(l:List Int)(p:Int)(hown:Own X6 1 3 base w v l)(hlen:l.length<=1000000):
  Calls Tryz.prog 157 #[v,.int .i64 p] w fun e w'=>∃v',e=.returned v'/\Own X6 1 3 0 w' v' (rin l p)/\Below w.heap.size w w':=by
 obtain⟨i0,hi,hz0,hz1,hz2⟩:=info_parts Q0c
 obtain⟨K,hK⟩:∃K,lead l p=K:=⟨_,rfl⟩
 have hKn:K<=l.length:=by rw[<-hK];exact Q0d l p
 have HK:=Q0 hK
 clear hK
 rcases hown.2 with ⟨rfl,h0⟩|⟨g,cap,cur,rfl,hb,hg,hn1,hcm1,hs,ht⟩
 ·obtain rfl:l=[]:=List.eq_nil_of_length_eq_zero h0
  have HD:Sc (rin ([]:List Int) p=[]++[p]):=⟨rfl⟩
  have HTk:Sc (Own X6 1 3 0 w (.slice none 0 0) (([]:List Int))):=⟨Own.nil⟩
  clear hown h0 hKn hlen HK
  go_enter Tryz.func157,Tryz.ntmps157
  go_wp2_with fail
  go_loopg [5] 0 (fun kx s5 wr=>s5=.int .i64 0/\wr=w)
  case atStart=>exact⟨rfl,rfl⟩
  case round=>
   obtain⟨rfl,rfl⟩:=hrel
   go_wp2_with (first|(go_at_call 17;refine(Vj _ 0 _ ([]:List Int) HTk.o (by simp)).mono ?_;rintro e w2 ⟨v2,rfl,ho,hb2⟩;obtain⟨A2,c2,rfl,_,_⟩:=ho.slice;have HO2:=Q0 ho;have HB2:=Q0 hb2;clear ho hb2)|(at_builtin;refine wpList_append_own_at _ rfl (.tmp 37) (.tmp 39) 22 rfl wr.heap.size 3 i0 (.int .i64 0) 1 8 Tryz.underlying22 hi hz0 hz1 hz2 rfl (by decide) _ 0 (flat X6 ([]:List Int)) rfl (HO2.o.alloc _) _ 1 1 (X6 p) rfl rfl ?c1 ?c2 ?c3 ?c4 ?c5 ?_))
   case c1=>exact World.news_of_block (heap_alloc_new _ _)
   case c2=>exact Jm.one p
   case c3=>unfold maxLen;omega
   case c4=>omega
   case c5=>have:=HB2.o.size;simp;omega
   intro v3 w3 h1 h2 h3 h4
   have HO3:Sc (Own X6 1 3 wr.heap.size w3 v3 ([]++[p])):=⟨Own.Qv h1 rfl (by rw[Qc,Qm];try rfl)⟩
   have HB3:Sc (Below wr.heap.size wr w3):=⟨(HB2.o.alloc HB2.o.size _).grown h2 (by have:=HB2.o.size;simp;omega) (fun k hk=>(HO2.o.lt k hk).1)⟩
   obtain⟨A3,c3,rfl,hle3,_⟩:=HO3.o.slice
   clear h1 h2 h3 h4
   go_wp2_with (at_builtin;go_loud (refine Lib.wpList_append_run _ rfl (.tmp 41) (.tmp 44) 22 22 rfl _ _ rfl rfl _ _ (Gw _ _ _ _ _ Tryz.underlying22 hi _ _ _ hle3) ?_))
   go_wp2
   go_ret
   exact⟨_,rfl,by rw[HD.o];exact HO3.o.mono (Nat.zero_le _),HB3.o⟩
 ·obtain⟨n,hn⟩:∃n,l.length=n:=⟨_,rfl⟩
  rw[hn]at hown hlen hKn hn1 ⊢
  have HN:=Q0 hn
  have HO:=Q0 hown
  have HTk:=Q0 (hown.take Jm hKn)
  have HT:Sc ((l.take K).length=K):=⟨by rw[List.length_take,hn];omega⟩
  have HE:Sc ((l.drop K).length=n - K):=⟨by rw[List.length_drop,hn]⟩
  have HTl0:Sc (∀j u,(flat X6 (l.drop K))[j]? =some u->w.cell? ((⟨g,K,none⟩:Addr).add j)=some u):=⟨fun j u h=>by have:=hown.tail Jm K j u h;simpa using this⟩
  have n6:(n:Int)<=cap:=by omega
  have n7:(K:Int)<=cap:=by omega
  have n8:(K:Int)<=n:=by omega
  have n9:K<=cap:=by omega
  clear hown hn hs ht hb hg hcm1
  go_enter Tryz.func157,Tryz.ntmps157
  go_wp2_with fail
  go_loopg [5] n (fun kx s5 wr=>∃j:Nat,s5=.int .i64 j/\j<=K/\n - j<=kx/\wr=w)
  case atStart=>exact⟨0,rfl,Nat.zero_le _,by omega,rfl⟩
  case round=>
   obtain⟨j,rfl,hj,hkx,rfl⟩:=hrel
   by_cases hlt:j<K
   ·obtain⟨x,hx⟩:∃x,l[j]? =some x:=⟨_,List.getElem?_eq_getElem (by rw[HN.o];omega)⟩
    have d0:=HO.o.Uw hx
    have hp:x<p:=Q3j hx (by rw[HK.o];exact hlt)
    have hjn:(j:Int)<n:=by omega
    clear hx
    go_wp2
    go_roundg (n - (j+1))
    case measure=>omega
    case rel=>exact⟨j+1,by go_num,by omega,Nat.le_refl _,rfl⟩
   ·obtain rfl:j=K:=by omega
    by_cases hlt2:j<n
    ·obtain⟨x,hx⟩:∃x,l[j]? =some x:=⟨_,List.getElem?_eq_getElem (by rw[HN.o];omega)⟩
     have d0:=HO.o.Uw hx
     have hp:¬x<p:=Q3i (l:=l) (by rw[HK.o];exact hx)
     have hjn:(j:Int)<n:=by omega
     have hcap:¬cap=j:=by omega
     by_cases hxp:x=p
     ·have hb:(x==p)=true:=by simp[hxp]
      have HD:Sc (rin l p=l):=⟨by unfold rin;rw[HK.o,hx,hxp,if_pos rfl]⟩
      clear hx hxp hcap
      go_wp2
      go_ret
      exact⟨.slice (some ⟨g,0,none⟩) n cap,rfl,by rw[HD.o];exact HO.o.mono (Nat.zero_le _),Below.refl _ _⟩
     ·have hb:(x==p)=false:=by simp[hxp]
      have HD:Sc (rin l p=(l.take j++[p])++l.drop j):=⟨by unfold rin;rw[HK.o,hx,if_neg (fun h=>hxp (by injection h)),List.append_assoc];rfl⟩
      clear hx hxp
      go_wp2_with (first|(go_at_call 17;refine(Vj _ base _ (l.take j) HTk.o (by rw[HT.o];omega)).mono ?_;rintro e w2 ⟨v2,rfl,ho,hb2⟩;obtain⟨A2,c2,rfl,_,_⟩:=ho.slice;have HO2:=Q0 ho;have HB2:=Q0 hb2;rw[HT.o]at HO2 ⊢;clear ho hb2)|(at_builtin;refine wpList_append_own_at _ rfl (.tmp 37) (.tmp 39) 22 rfl wr.heap.size 3 i0 (.int .i64 0) 1 8 Tryz.underlying22 hi hz0 hz1 hz2 rfl (by decide) _ j (flat X6 (l.take j)) rfl ((HO2.o.rows HT.o).alloc _) _ 1 1 (X6 p) rfl rfl ?c1 ?c2 ?c3 ?c4 ?c5 ?_))
      case c1=>exact World.news_of_block (heap_alloc_new _ _)
      case c2=>exact Jm.one p
      case c3=>unfold maxLen;omega
      case c4=>omega
      case c5=>have:=HB2.o.size;simp;omega
      intro v3 w3 h1 h2 h3 h4
      have HO3:Sc (Own X6 1 3 wr.heap.size w3 v3 (l.take j++[p])):=⟨Own.Qv h1 (by rw[List.length_append,HT.o];rfl) (by rw[Qc,Qm];try rfl)⟩
      have HB3:Sc (Below wr.heap.size wr w3):=⟨(HB2.o.alloc HB2.o.size _).grown h2 (by have:=HB2.o.size;simp;omega) (fun k hk=>(HO2.o.lt k hk).1)⟩
      obtain⟨A3,c3,rfl,hle3,_⟩:=HO3.o.slice
      have HT3:Sc ((l.take j++[p]).length=j+1):=⟨by rw[List.length_append,HT.o];rfl⟩
      rw[HT3.o]at HO3 hle3 ⊢
      clear h1 h2 h3 h4
      go_wp2_with (at_builtin;go_loud (refine wpList_append_own_at _ rfl (.tmp 41) (.tmp 44) 22 rfl wr.heap.size 3 i0 (.int .i64 0) 1 8 Tryz.underlying22 hi hz0 hz1 hz2 rfl (by decide) _ (j+1) (flat X6 (l.take j++[p])) rfl (HO3.o.rows HT3.o) ⟨g,j,none⟩ (n - j) (cap - j) (flat X6 (l.drop j)) rfl ?c1 (Xo HB3.o HTl0.o) (Jm.Xk _) ?c3 ?c4 ?c5 ?_))
      case c1=>rw[Jm.Qp,HE.o]<;>omega
      case c3=>unfold maxLen;omega
      case c4=>omega
      case c5=>exact HB3.o.size
      intro v4 w4 h1 h2 h3 h4
      have H1:Sc (Own X6 1 3 wr.heap.size w4 v4 (rin l p)):=⟨Own.Qv h1 (by rw[HD.o,List.length_append,HT3.o,HE.o]<;>omega) (by rw[HD.o];simp only[Qc])⟩
      have H2:Sc (Below wr.heap.size wr w4):=⟨HB3.o.grown h2 HB3.o.size (fun k hk=>(HO3.o.lt k hk).1)⟩
      clear h1 h2 h3 h4
      go_wp2
      go_ret
      exact⟨_,rfl,H1.o.mono (Nat.zero_le _),H2.o⟩
    ·obtain rfl:j=n:=by omega
     have hz:l.drop j=[]:=List.drop_eq_nil_of_le (by rw[HN.o];exact Nat.le_refl _)
     have HD:Sc (rin l p=(l.take j++[p])++l.drop j):=⟨by
      unfold rin
      rw[HK.o,List.getElem?_eq_none (by rw[HN.o];exact Nat.le_refl _),if_neg (fun h=>by cases h),List.append_assoc];rfl⟩
     by_cases hcap:cap=j
     ·subst hcap
      have HTl:Sc (∀t u,(flat X6 (l.drop cap))[t]? =some u->wr.cell? ((⟨g,0,none⟩:Addr).add t)=some u):=⟨fun t u ht=>by rw[hz]at ht;cases ht⟩
      clear hz HTl0
      go_wp2_with (first|(go_at_call 17;refine(Vj _ base _ (l.take cap) HTk.o (by rw[HT.o];omega)).mono ?_;rintro e w2 ⟨v2,rfl,ho,hb2⟩;obtain⟨A2,c2,rfl,_,_⟩:=ho.slice;have HO2:=Q0 ho;have HB2:=Q0 hb2;rw[HT.o]at HO2 ⊢;clear ho hb2)|(at_builtin;refine wpList_append_own_at _ rfl (.tmp 37) (.tmp 39) 22 rfl wr.heap.size 3 i0 (.int .i64 0) 1 8 Tryz.underlying22 hi hz0 hz1 hz2 rfl (by decide) _ cap (flat X6 (l.take cap)) rfl ((HO2.o.rows HT.o).alloc _) _ 1 1 (X6 p) rfl rfl ?c1 ?c2 ?c3 ?c4 ?c5 ?_))
      case c1=>exact World.news_of_block (heap_alloc_new _ _)
      case c2=>exact Jm.one p
      case c3=>unfold maxLen;omega
      case c4=>omega
      case c5=>have:=HB2.o.size;simp;omega
      intro v3 w3 h1 h2 h3 h4
      have HO3:Sc (Own X6 1 3 wr.heap.size w3 v3 (l.take cap++[p])):=⟨Own.Qv h1 (by rw[List.length_append,HT.o];rfl) (by rw[Qc,Qm];try rfl)⟩
      have HB3:Sc (Below wr.heap.size wr w3):=⟨(HB2.o.alloc HB2.o.size _).grown h2 (by have:=HB2.o.size;simp;omega) (fun k hk=>(HO2.o.lt k hk).1)⟩
      obtain⟨A3,c3,rfl,hle3,_⟩:=HO3.o.slice
      have HT3:Sc ((l.take cap++[p]).length=cap+1):=⟨by rw[List.length_append,HT.o];rfl⟩
      rw[HT3.o]at HO3 hle3 ⊢
      clear h1 h2 h3 h4
      go_wp2_with (at_builtin;go_loud (refine wpList_append_own_at _ rfl (.tmp 41) (.tmp 44) 22 rfl wr.heap.size 3 i0 (.int .i64 0) 1 8 Tryz.underlying22 hi hz0 hz1 hz2 rfl (by decide) _ (cap+1) (flat X6 (l.take cap++[p])) rfl (HO3.o.rows HT3.o) ⟨g,0,none⟩ 0 0 (flat X6 (l.drop cap)) rfl ?c1 (Xo HB3.o HTl.o) (Jm.Xk _) ?c3 ?c4 ?c5 ?_))
      case c1=>rw[Jm.Qp,HE.o]<;>omega
      case c3=>unfold maxLen;omega
      case c4=>omega
      case c5=>exact HB3.o.size
      intro v4 w4 h1 h2 h3 h4
      have H1:Sc (Own X6 1 3 wr.heap.size w4 v4 (rin l p)):=⟨Own.Qv h1 (by rw[HD.o,List.length_append,HT3.o,HE.o]<;>omega) (by rw[HD.o];simp only[Qc])⟩
      have H2:Sc (Below wr.heap.size wr w4):=⟨HB3.o.grown h2 HB3.o.size (fun k hk=>(HO3.o.lt k hk).1)⟩
      clear h1 h2 h3 h4
      go_wp2
      go_ret
      exact⟨_,rfl,H1.o.mono (Nat.zero_le _),H2.o⟩
     ·have HTl:Sc (∀t u,(flat X6 (l.drop j))[t]? =some u->wr.cell? ((⟨g,j,none⟩:Addr).add t)=some u):=⟨fun t u ht=>by rw[hz]at ht;cases ht⟩
      clear hz
      go_wp2_with (first|(go_at_call 17;refine(Vj _ base _ (l.take j) HTk.o (by rw[HT.o];omega)).mono ?_;rintro e w2 ⟨v2,rfl,ho,hb2⟩;obtain⟨A2,c2,rfl,_,_⟩:=ho.slice;have HO2:=Q0 ho;have HB2:=Q0 hb2;rw[HT.o]at HO2 ⊢;clear ho hb2)|(at_builtin;refine wpList_append_own_at _ rfl (.tmp 37) (.tmp 39) 22 rfl wr.heap.size 3 i0 (.int .i64 0) 1 8 Tryz.underlying22 hi hz0 hz1 hz2 rfl (by decide) _ j (flat X6 (l.take j)) rfl ((HO2.o.rows HT.o).alloc _) _ 1 1 (X6 p) rfl rfl ?c1 ?c2 ?c3 ?c4 ?c5 ?_))
      case c1=>exact World.news_of_block (heap_alloc_new _ _)
      case c2=>exact Jm.one p
      case c3=>unfold maxLen;omega
      case c4=>omega
      case c5=>have:=HB2.o.size;simp;omega
      intro v3 w3 h1 h2 h3 h4
      have HO3:Sc (Own X6 1 3 wr.heap.size w3 v3 (l.take j++[p])):=⟨Own.Qv h1 (by rw[List.length_append,HT.o];rfl) (by rw[Qc,Qm];try rfl)⟩
      have HB3:Sc (Below wr.heap.size wr w3):=⟨(HB2.o.alloc HB2.o.size _).grown h2 (by have:=HB2.o.size;simp;omega) (fun k hk=>(HO2.o.lt k hk).1)⟩
      obtain⟨A3,c3,rfl,hle3,_⟩:=HO3.o.slice
      have HT3:Sc ((l.take j++[p]).length=j+1):=⟨by rw[List.length_append,HT.o];rfl⟩
      rw[HT3.o]at HO3 hle3 ⊢
      clear h1 h2 h3 h4
      go_wp2_with (at_builtin;go_loud (refine wpList_append_own_at _ rfl (.tmp 41) (.tmp 44) 22 rfl wr.heap.size 3 i0 (.int .i64 0) 1 8 Tryz.underlying22 hi hz0 hz1 hz2 rfl (by decide) _ (j+1) (flat X6 (l.take j++[p])) rfl (HO3.o.rows HT3.o) ⟨g,j,none⟩ 0 (cap - j) (flat X6 (l.drop j)) rfl ?c1 (Xo HB3.o HTl.o) (Jm.Xk _) ?c3 ?c4 ?c5 ?_))
      case c1=>rw[Jm.Qp,HE.o]<;>omega
      case c3=>unfold maxLen;omega
      case c4=>omega
      case c5=>exact HB3.o.size
      intro v4 w4 h1 h2 h3 h4
      have H1:Sc (Own X6 1 3 wr.heap.size w4 v4 (rin l p)):=⟨Own.Qv h1 (by rw[HD.o,List.length_append,HT3.o,HE.o]<;>omega) (by rw[HD.o];simp only[Qc])⟩
      have H2:Sc (Below wr.heap.size wr w4):=⟨HB3.o.grown h2 HB3.o.size (fun k hk=>(HO3.o.lt k hk).1)⟩
      clear h1 h2 h3 h4
      go_wp2
      go_ret
      exact⟨_,rfl,H1.o.mono (Nat.zero_le _),H2.o⟩
section
abbrev Q3v:Fld->World->Nat->Nat->Option Nat->List (Int×Int)->Prop:=Q0x Qj 2 188
abbrev Y6j:Fld->Nat->Nat->Option Nat->List (Int×Int)->World->World->Prop:=Xj Qj 2 188
def ofW(s:Int)(l:List (Int×Int)):List Int:=(l.filter fun x=>decide (x.1=s)).foldl (fun o x=>rin o x.2) []
theorem Y2p{s:Int}{l:List (Int×Int)}{i:Nat}{x:Int×Int}(hx:l[i]? =some x):ofW s (l.take (i+1))=if x.1=s then rin (ofW s (l.take i)) x.2 else ofW s (l.take i):=by
 have:l.take (i+1)=l.take i++[x]:=by rw[List.take_add_one,hx];rfl
 unfold ofW
 rw[this,List.filter_append]
 split
 ·rename_i h
  simp[h]
 ·rename_i h
  simp[h]
theorem Q4r(s:Int)(l:List (Int×Int)):(ofW s l).length<=l.length:=by
 have h:∀(m:List (Int×Int)) (o:List Int),(m.foldl (fun o x=>rin o x.2) o).length<=o.length+m.length:=by
  intro m
  induction m with
  |nil=>intro o;simp
  |cons x r ih=>
   intro o
   have h1:=ih (rin o x.2)
   have h2:=Ce o x.2
   simp only[List.foldl_cons,List.length_cons]
   omega
 have h1:=h (l.filter fun x=>decide (x.1=s)) []
 have h2:=List.length_filter_le (fun x:Int×Int=>decide (x.1=s)) l
 unfold ofW
 simp at h1
 omega
variable{F:Fld}
set_option maxRecDepth 4000 in
set_option maxHeartbeats 2000000 in
theorem Q2o(w:World)(tb o:Nat)(row:Option Nat)(l:List (Int×Int))(s:Int)(h:Q3v F w tb o row l)(hlen:l.length<=100000):
  Calls Tryz.prog 158 #[.pointer (some ⟨tb,o,none⟩),.int .i64 s] w fun e w'=>∃v',e=.returned v'/\Own X6 1 3 0 w' v' (ofW s l)/\Below w.heap.size w w':=by
 obtain⟨⟨v,hv,hc,hown⟩,ha⟩:=h
 obtain⟨A,cap,rfl,hnc,hcm⟩:=hown.slice
 obtain⟨n,hn⟩:∃n,l.length=n:=⟨_,rfl⟩
 rw[hn]at hown hlen hc hnc
 have HN:=Q0 hn
 have HO:=Q0 hown
 have HC:=Q0 hc
 clear hown hn hc hv ha
 go_enter Tryz.func158,Tryz.ntmps158
 go_wp2_with fail
 go_loopg [5,6] n (fun kx s5 s6 wr=>∃i:Nat,s6=.int .i64 i/\i<=n/\n - i<=kx/\Sc (Below w.heap.size w wr)/\Sc (Own X6 1 3 0 wr s5 (ofW s (l.take i))))
 case atStart=>exact⟨0,rfl,Nat.zero_le _,by omega,⟨Below.refl _ _⟩,⟨Own.nil⟩⟩
 case round=>
  obtain⟨i,rfl,hin,hg,HB,HR⟩:=hrel
  have hcw:=(HC.o.bel HB.o)
  have c0:=hcw.cell0
  have lc:=hcw.lt
  clear hcw
  by_cases hlt:i<n
  ·obtain⟨x,hx⟩:∃x,l[i]? =some x:=⟨_,List.getElem?_eq_getElem (by rw[HN.o];exact hlt)⟩
   obtain⟨g,c2,he,_,_,_,_⟩:=HO.o.form (by rw[HN.o];omega)
   injection he with hA hn2 hC
   subst hA
   obtain⟨d0,d1⟩:=(HO.o.below HB.o).Xb hx
   have HX:=Q0 (Y2p (s:=s) hx)
   have hil:(i:Int)<n:=by omega
   clear hx hn2 hC
   by_cases hs:x.1=s
   ·have e1:(x.1==s)=true:=by simp[hs]
    have HX2:Sc (ofW s (l.take (i+1))=rin (ofW s (l.take i)) x.2):=⟨by rw[HX.o,if_pos hs]⟩
    clear hs
    go_wp2_with fail
    refine(E4 _ 0 _ (ofW s (l.take i)) x.2 HR.o (by have:=Q4r s (l.take i);simp at this;omega)).mono ?_
    rintro e w2 ⟨v2,rfl,ho,hb⟩
    have HB2:=Q0 (Q5 HB.o hb)
    have HO2:Sc (Own X6 1 3 0 w2 v2 (ofW s (l.take (i+1)))):=⟨by rw[HX2.o];exact ho⟩
    clear ho hb d0 d1 c0 lc
    go_wp2
    go_roundg (n - (i+1))
    case measure=>omega
    case rel=>exact⟨i+1,by go_num,by omega,Nat.le_refl _,HB2,HO2⟩
   ·have e1:(x.1==s)=false:=by simp[hs]
    have HX2:Sc (ofW s (l.take (i+1))=ofW s (l.take i)):=⟨by rw[HX.o,if_neg hs]⟩
    clear hs
    go_wp2
    go_roundg (n - (i+1))
    case measure=>omega
    case rel=>exact⟨i+1,by go_num,by omega,Nat.le_refl _,HB,⟨by rw[HX2.o];exact HR.o⟩⟩
  ·obtain rfl:i=n:=by omega
   have HE:Sc (l.take i=l):=⟨by rw[<-HN.o,List.take_length]⟩
   go_wp2
   go_ret
   exact⟨_,rfl,by have:=HR.o;rwa [HE.o]at this,HB.o⟩
end
end Go.Proofs.YtoapihepdallbaaGreatDoor
