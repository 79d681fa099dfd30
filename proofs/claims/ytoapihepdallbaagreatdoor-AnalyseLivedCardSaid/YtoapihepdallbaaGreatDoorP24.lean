import Derived.IntWalk
import Derived.Test.YtoapihepdallbaaGreatDoorP23
namespace Go.Proofs.YtoapihepdallbaaGreatDoor
open Go.RowKit
section
variable{pages:Int}{cap:Nat}{A:Abs}{id:Int}
def V2(pages page key:Int)(l:List (Int×Int))(K:List Int):List Int:=K.filter (fun j=> !has l j&&decide (j≠key)&&decide (Zr j pages=page))
theorem Q0z{pages page key j:Int}{l:List (Int×Int)}{K:List Int}:j∈V2 pages page key l K↔j∈K/\has l j=false/\j≠key/\Zr j pages=page:=by
 unfold V2
 rw[List.mem_filter]
 cases has l j<;>simp
theorem Ok.set(h:Ok pages cap A)(hpg:1<=pages/\pages<=32)(hc:A.L.length<cap)(hcap:cap<=400){n:Nat}(hn:A.X1[n]? =some id)(h0:id≠0){key page old new nl:Int}{had hs:Bool}{l:List (Int×Int)}(hpl:page=Zr key pages)(hpv:A.pv page=(nl,l))(hk:0<=key/\key<=1048575)(hlk:((n:Int),key,(2:Int))∈A.lk)(hfull:has l key=true\/l.length+(V2 pages page key l (V3 A.lk)).length<20)(hold: -9223372036854775808<=old/\old<=9223372036854775807/\(had=false->old=0))(hnew: -9223372036854775808<=new/\new<=9223372036854775807/\(hs=false->new=0))(hany:had=true\/hs=true){r:Q9}(hr:r=⟨2,id,page,(got A.tx id).2.2.1,0,key,had,hs,old,new⟩):
  Qq r=true/\nl<(A.L.length:Int)+1/\(r.has=true->(has l r.key=true\/l.length<20))/\OkP ((A.L.length:Int)+1) (Yj l r)/\G6 (Yj l r)/\Ok pages cap (A.changed r id (Yj l r)):=by
 subst hr
 obtain⟨hv,ha⟩:Live A A.tx/\Y8q A.tx:=h.live.resolve_left (by omega)
 obtain⟨x,hx,hxi⟩:=Qy.1 ((hv.X1 n id hn).resolve_left h0)
 have hg:got A.tx id=x:=by rw[<-hxi];exact(Z3 h.Yc.Je hx).2.2
 rw[hg]
 have hidr:=h.Yc.ids x hx
 have hmost:=h.Yc.most
 have hol:=hv.last x hx
 have hor:=hol.range
 obtain⟨p1,p2,p3⟩:=h.Yc.pgs page
 rw[hpv]at p1 p2 p3
 have hkr:=p1.keys
 have hplr:=Q1i key hpg.1
 rw[<-hpl]at hplr
 have hfit:has l key=true\/l.length<20:=hfull.imp_right (fun hh=>by omega)
 have hgood:Qq ⟨2,id,page,x.2.2.1,0,key,had,hs,old,new⟩=true:=by
  refine Jq.2 ⟨⟨⟨⟨⟨⟨rfl,Ye (by show(1:Int)<=id;omega) (by show id<=60000;omega)⟩,Ye (by show(1:Int)<=page;omega) (by show page<=32;omega)⟩,Ye (by show(0:Int)<=x.2.2.1;omega) (by show x.2.2.1<=1073741824;omega)⟩,rfl⟩,Ye (by show(0:Int)<=key;omega) (by show key<=1048575;omega)⟩,?_⟩
  unfold Qk
  rw[if_neg (fun hh=> ?_),if_pos rfl]
  ·show(had||hs)=true
   rcases hany with e|e<;>rw[e]<;>simp
  ·rcases hh with ⟨h1,h2⟩|⟨h1,h2⟩
   ·exact h2 (hnew.2.2 h1)
   ·exact h2 (hold.2.2 h1)
 have hokp:=p1.change (r:=⟨2,id,page,x.2.2.1,0,key,had,hs,old,new⟩) (lsn:=(A.L.length:Int)+1) (by omega) (by omega) hk (fun _=>hfit)
 have hvals:=G6.change (r:=⟨2,id,page,x.2.2.1,0,key,had,hs,old,new⟩) hkr.1 p2 ⟨hnew.1,hnew.2.1⟩
 have hrk:∀k,Db A page k->k∈V3 A.lk/\Zr k pages=page:=fun k ⟨lsn,q,hq,e1,e2,e3,e4⟩=>by
  obtain⟨y,hy,hye⟩:=Qy.1 e4
  obtain⟨n',hn'⟩:=hv.own y hy
  have hy0:=(h.Yc.ids y hy).1
  have:=hv.held n' y.1 hn' (by omega) lsn q hq e1 hye.symm
  rw[e3]at this
  refine⟨X1f.2 ⟨_,this,by simp,rfl⟩,?_⟩
  rw[<-e3,<-(h.Yc.wf lsn q hq).place e1,e2]
 have hroom:∃K:List Int,K.Nodup/\K.length<=20/\(∀y∈Yj l ⟨2,id,page,x.2.2.1,0,key,had,hs,old,new⟩,y.1∈K)/\(∀k,Db A page k->k∈K)/\key∈K:=by
  cases hh:has l key with
  |true=>
   obtain⟨K,k1,k2,k3,k4⟩:=hv.room page
   rw[hpv]at k3
   obtain⟨z,hz,hzk⟩:=Qy.1 hh
   have hkk:key∈K:=by rw[<-hzk];exact k3 z hz
   refine⟨K,k1,k2,fun y hy=> ?_,k4,hkk⟩
   rcases Q1g hkr.1 hy with he|hy
   ·rw[he];exact hkk
   ·exact k3 y hy
  |false=>
   have hlen:=hfull.resolve_left (by rw[hh];simp)
   refine⟨key::(l.map (·.1)++V2 pages page key l (V3 A.lk)),?_,?_,fun y hy=> ?_,fun k hk=> ?_,List.mem_cons_self⟩
   ·refine List.nodup_cons.2 ⟨fun hm=> ?_,List.nodup_append.2 ⟨?_,?_,?_⟩⟩
    ·rcases List.mem_append.1 hm with hm|hm
     ·obtain⟨z,hz,hzk⟩:=List.mem_map.1 hm
      rw[Qy.2 ⟨z,hz,hzk⟩]at hh
      cases hh
     ·exact(Q0z.1 hm).2.2.1 rfl
    ·exact List.pairwise_map.2 (List.Pairwise.imp (fun {a b} h=>by omega) hkr.1)
    ·exact List.Pairwise.imp (fun {a b} h=>by omega) (List.Pairwise.filter _ (Q1x _ _ A.lk))
    ·intro a ha b hb he
     subst he
     obtain⟨z,hz,hzk⟩:=List.mem_map.1 ha
     have:=(Q0z.1 hb).2.1
     rw[Qy.2 ⟨z,hz,hzk⟩]at this
     cases this
   ·rw[List.length_cons,List.length_append,List.length_map];omega
   ·rcases Q1g hkr.1 hy with he|hy
    ·rw[he];exact List.mem_cons_self
    ·exact List.mem_cons_of_mem _ (List.mem_append_left _ (List.mem_map.2 ⟨y,hy,rfl⟩))
   ·obtain⟨t1,t2⟩:=hrk k hk
    by_cases hkk:k=key
    ·rw[hkk];exact List.mem_cons_self
    ·cases hkl:has l k with
     |true=>
      obtain⟨z,hz,hzk⟩:=Qy.1 hkl
      exact List.mem_cons_of_mem _ (List.mem_append_left _ (List.mem_map.2 ⟨z,hz,hzk⟩))
     |false=>exact List.mem_cons_of_mem _ (List.mem_append_right _ (Q0z.2 ⟨t1,hkl,hkk,t2⟩))
 obtain⟨K,k1,k2,k3,k4,k5⟩:=hroom
 refine⟨hgood,by show nl<_;have:nl<=(A.L.length:Int):=p3;omega,fun _=>hfit,hokp,hvals,?_⟩
 exact((h.to id).change (r:=⟨2,id,page,x.2.2.1,0,key,had,hs,old,new⟩) hc hx hxi (.inl ⟨rfl,rfl⟩) rfl rfl ⟨hgood,fun _=>hplr.2,fun _ _=>⟨by show x.2.2.1<_;omega,by show Uu A.L id x.2.2.1;rw[<-hxi];exact hol⟩,fun hh=>absurd hh (by show ¬((2:Int)=3);omega),fun _=>hpl,fun _=>⟨hold.1,hold.2.1⟩⟩ hplr (fun _ n' hn'=>by rcases hv.inj n' n id hn' hn with e|e;exact absurd e h0;rw[e];exact hlk) hokp hvals ⟨K,k1,k2,k3,k4,fun _=>k5⟩).from_
end
def Q8t(n:Nat)(w:World)(e:Ending)(w':World):Prop:=∃v f,e=.returned v/\f.length=n/\Own Yx 1 5 w.heap.size w' v f/\Below w.heap.size w w'
theorem Yq(w:World)(v:Value)(f:List Int)(N:Nat)(a s:Int)(at_ size:Nat)(n:Int)(hown:RdB w v f)(hN:f.length=N)(ha:a=at_)(hs:s=size)(hlen:N<=1000000)(h0:1<=size)(h1:size<=8)(h2:at_+size<=N):
  Calls Tryz.prog 134 #[v,.int .i64 a,.int .i64 s,.int .u64 n] w (Q8t N w):=
 (Gs w v f a s at_ size n hown ha hs (by omega) h0 h1 (by omega)).mono fun e w' ⟨v',he,ho,hb⟩=>⟨v',_,he,by rw[Xl];exact hN,ho,hb⟩
def Q6c:List Int:=List.replicate 40 0
theorem O6:Q6c.length=40:=List.length_replicate
def Dl:Array Value:=(flat Yx Q6c).toArray
theorem X5p(W:World):Own Yx 1 5 W.heap.size (W.alloc (.cells Dl 5)) (.slice (some ⟨W.heap.size,0,none⟩) 40 40) Q6c:=
 Own.Jc (heap_alloc_new _ _) (Nat.le_refl _) Ee O6 (Nat.le_refl _) (by unfold maxLen;omega) (by kernel_rfl) (by unfold Dl;rw[List.take_of_length_le (by rw[Ee.Qp,O6];exact Nat.le_refl _)])
theorem Q8z{w W:World}{r:Q9}(h:Below (w.heap.size+1) (w.alloc (.cells (Qe r) 49)) W):
  W.cell? ⟨w.heap.size,0,none⟩=some (.int .i64 r.kind)/\W.cell? ⟨w.heap.size,1,none⟩=some (.int .i64 r.txn)/\W.cell? ⟨w.heap.size,2,none⟩=some (.int .i64 r.page)/\W.cell? ⟨w.heap.size,3,none⟩=some (.int .i64 r.prev)/\W.cell? ⟨w.heap.size,4,none⟩=some (.int .i64 r.next)/\W.cell? ⟨w.heap.size,5,none⟩=some (.int .i64 r.key)/\W.cell? ⟨w.heap.size,6,none⟩=some (.bool r.had)/\W.cell? ⟨w.heap.size,7,none⟩=some (.bool r.has)/\W.cell? ⟨w.heap.size,8,none⟩=some (.int .i64 r.old)/\W.cell? ⟨w.heap.size,9,none⟩=some (.int .i64 r.new):=
 Qb ((h.block w.heap.size (by omega)).trans (heap_alloc_new w _))
set_option maxRecDepth 4000 in
set_option maxHeartbeats 8000000 in
theorem Q9z(w:World)(r:Q9):Calls Tryz.prog 161 #[Yg r] w (Q8t 40 w):=by
 have hmk:∀W,(Instr.makeSlice 155 (.int .i64 40) (.int .i64 40)).run Tryz.prog W=.ok (.slice (some ⟨W.heap.size,0,none⟩) 40 40) (W.alloc (.cells Dl 5)):=fun _=>by kernel_rfl
 obtain⟨w1,hw1⟩:∃w1,((w.alloc (.cells (Qe r) 49)).alloc (.cells Dl 5))=w1:=⟨_,rfl⟩
 have HB0:Sc (Below (w.heap.size+1) (w.alloc (.cells (Qe r) 49)) w1):=⟨hw1▸(Below.refl _ _).alloc (by simp) _⟩
 have HBW:Sc (Below w.heap.size w w1):=⟨hw1▸((Below.refl _ _).alloc (Nat.le_refl _) _).alloc (by simp) _⟩
 have HLE:Sc (w.heap.size+1<=w1.heap.size):=⟨by rw[<-hw1];simp⟩
 have HR0:Sc (RdB w1 (.slice (some ⟨w.heap.size+1,0,none⟩) 40 40) Q6c):=⟨hw1▸by
  have:=(X5p (w.alloc (.cells (Qe r) 49))).rd
  simpa using this⟩
 have HL0:Sc (Q6c.length=40):=⟨O6⟩
 obtain⟨had,hhad⟩:∃had,r.had=had:=⟨_,rfl⟩
 obtain⟨has,hhas⟩:∃has,r.has=has:=⟨_,rfl⟩
 have HHAD:=Q0 hhad
 have HHAS:=Q0 hhas
 clear hhad hhas
 cases had<;>cases has
 all_goals
  go_enter Tryz.func161,Tryz.ntmps161
  go_upto_region 2 with fail
  clear hw1
  obtain⟨c0,c1,c2,c3,c4,c5,c6,c7,c8,c9⟩:=Q8z HB0.o
  rw[HHAD.o]at c6
  rw[HHAS.o]at c7
  go_wp2_with fail
  refine(Yq _ _ _ 40 _ _ 0 1 _ HR0.o HL0.o (by omega) (by omega) (by omega) (by omega) (by omega) (by omega)).mono ?_
  rintro e w2 ⟨v1,f1,rfl,hl,ho,hb⟩
  have HL1:=Q0 hl
  have HR1:=Q0 ho.rd
  have HN1:Sc (w.heap.size+1<=w2.heap.size):=⟨Nat.le_trans HLE.o hb.size⟩
  have HB1:Sc (Below (w.heap.size+1) (w.alloc (.cells (Qe r) 49)) w2):=⟨HB0.o.trans (hb.mono HLE.o)⟩
  have HW1:Sc (Below w.heap.size w w2):=⟨HBW.o.trans (hb.mono HBW.o.size)⟩
  clear hl ho hb c0 c1 c2 c3 c4 c5 c6 c7 c8 c9
  obtain⟨c0,c1,c2,c3,c4,c5,c6,c7,c8,c9⟩:=Q8z HB1.o
  rw[HHAD.o]at c6
  rw[HHAS.o]at c7
  go_wp2_with fail
  refine(Yq _ _ _ 40 _ _ 1 1 _ HR1.o HL1.o (by omega) (by omega) (by omega) (by omega) (by omega) (by omega)).mono ?_
  rintro e w3 ⟨v2,f2,rfl,hl,ho,hb⟩
  have HL2:=Q0 hl
  have HR2:=Q0 ho.rd
  have HN2:Sc (w.heap.size+1<=w3.heap.size):=⟨Nat.le_trans HN1.o hb.size⟩
  have HB2:Sc (Below (w.heap.size+1) (w.alloc (.cells (Qe r) 49)) w3):=⟨HB1.o.trans (hb.mono HN1.o)⟩
  have HW2:Sc (Below w.heap.size w w3):=⟨HW1.o.trans (hb.mono HW1.o.size)⟩
  clear hl ho hb c0 c1 c2 c3 c4 c5 c6 c7 c8 c9
  obtain⟨c0,c1,c2,c3,c4,c5,c6,c7,c8,c9⟩:=Q8z HB2.o
  rw[HHAD.o]at c6
  rw[HHAS.o]at c7
  go_wp2_with fail
  refine(Yq _ _ _ 40 _ _ 2 2 _ HR2.o HL2.o (by omega) (by omega) (by omega) (by omega) (by omega) (by omega)).mono ?_
  rintro e w4 ⟨v3,f3,rfl,hl,ho,hb⟩
  have HL3:=Q0 hl
  have HR3:=Q0 ho.rd
  have HN3:Sc (w.heap.size+1<=w4.heap.size):=⟨Nat.le_trans HN2.o hb.size⟩
  have HB3:Sc (Below (w.heap.size+1) (w.alloc (.cells (Qe r) 49)) w4):=⟨HB2.o.trans (hb.mono HN2.o)⟩
  have HW3:Sc (Below w.heap.size w w4):=⟨HW2.o.trans (hb.mono HW2.o.size)⟩
  clear hl ho hb c0 c1 c2 c3 c4 c5 c6 c7 c8 c9
  obtain⟨c0,c1,c2,c3,c4,c5,c6,c7,c8,c9⟩:=Q8z HB3.o
  rw[HHAD.o]at c6
  rw[HHAS.o]at c7
  go_wp2_with fail
  refine(Yq _ _ _ 40 _ _ 4 2 _ HR3.o HL3.o (by omega) (by omega) (by omega) (by omega) (by omega) (by omega)).mono ?_
  rintro e w5 ⟨v4,f4,rfl,hl,ho,hb⟩
  have HL4:=Q0 hl
  have HR4:=Q0 ho.rd
  have HN4:Sc (w.heap.size+1<=w5.heap.size):=⟨Nat.le_trans HN3.o hb.size⟩
  have HB4:Sc (Below (w.heap.size+1) (w.alloc (.cells (Qe r) 49)) w5):=⟨HB3.o.trans (hb.mono HN3.o)⟩
  have HW4:Sc (Below w.heap.size w w5):=⟨HW3.o.trans (hb.mono HW3.o.size)⟩
  clear hl ho hb c0 c1 c2 c3 c4 c5 c6 c7 c8 c9
  obtain⟨c0,c1,c2,c3,c4,c5,c6,c7,c8,c9⟩:=Q8z HB4.o
  rw[HHAD.o]at c6
  rw[HHAS.o]at c7
  go_wp2_with fail
  refine(Yq _ _ _ 40 _ _ 8 4 _ HR4.o HL4.o (by omega) (by omega) (by omega) (by omega) (by omega) (by omega)).mono ?_
  rintro e w6 ⟨v5,f5,rfl,hl,ho,hb⟩
  have HL5:=Q0 hl
  have HR5:=Q0 ho.rd
  have HN5:Sc (w.heap.size+1<=w6.heap.size):=⟨Nat.le_trans HN4.o hb.size⟩
  have HB5:Sc (Below (w.heap.size+1) (w.alloc (.cells (Qe r) 49)) w6):=⟨HB4.o.trans (hb.mono HN4.o)⟩
  have HW5:Sc (Below w.heap.size w w6):=⟨HW4.o.trans (hb.mono HW4.o.size)⟩
  clear hl ho hb c0 c1 c2 c3 c4 c5 c6 c7 c8 c9
  obtain⟨c0,c1,c2,c3,c4,c5,c6,c7,c8,c9⟩:=Q8z HB5.o
  rw[HHAD.o]at c6
  rw[HHAS.o]at c7
  go_wp2_with fail
  refine(Yq _ _ _ 40 _ _ 12 4 _ HR5.o HL5.o (by omega) (by omega) (by omega) (by omega) (by omega) (by omega)).mono ?_
  rintro e w7 ⟨v6,f6,rfl,hl,ho,hb⟩
  have HL6:=Q0 hl
  have HR6:=Q0 ho.rd
  have HN6:Sc (w.heap.size+1<=w7.heap.size):=⟨Nat.le_trans HN5.o hb.size⟩
  have HB6:Sc (Below (w.heap.size+1) (w.alloc (.cells (Qe r) 49)) w7):=⟨HB5.o.trans (hb.mono HN5.o)⟩
  have HW6:Sc (Below w.heap.size w w7):=⟨HW5.o.trans (hb.mono HW5.o.size)⟩
  clear hl ho hb c0 c1 c2 c3 c4 c5 c6 c7 c8 c9
  obtain⟨c0,c1,c2,c3,c4,c5,c6,c7,c8,c9⟩:=Q8z HB6.o
  rw[HHAD.o]at c6
  rw[HHAS.o]at c7
  go_wp2_with fail
  refine(Yq _ _ _ 40 _ _ 16 4 _ HR6.o HL6.o (by omega) (by omega) (by omega) (by omega) (by omega) (by omega)).mono ?_
  rintro e w8 ⟨v7,f7,rfl,hl,ho,hb⟩
  have HL7:=Q0 hl
  have HR7:=Q0 ho.rd
  have HN7:Sc (w.heap.size+1<=w8.heap.size):=⟨Nat.le_trans HN6.o hb.size⟩
  have HB7:Sc (Below (w.heap.size+1) (w.alloc (.cells (Qe r) 49)) w8):=⟨HB6.o.trans (hb.mono HN6.o)⟩
  have HW7:Sc (Below w.heap.size w w8):=⟨HW6.o.trans (hb.mono HW6.o.size)⟩
  clear hl ho hb c0 c1 c2 c3 c4 c5 c6 c7 c8 c9
  obtain⟨c0,c1,c2,c3,c4,c5,c6,c7,c8,c9⟩:=Q8z HB7.o
  rw[HHAD.o]at c6
  rw[HHAS.o]at c7
  go_wp2_with fail
  refine(Yq _ _ _ 40 _ _ 24 8 _ HR7.o HL7.o (by omega) (by omega) (by omega) (by omega) (by omega) (by omega)).mono ?_
  rintro e w9 ⟨v8,f8,rfl,hl,ho,hb⟩
  have HL8:=Q0 hl
  have HR8:=Q0 ho.rd
  have HN8:Sc (w.heap.size+1<=w9.heap.size):=⟨Nat.le_trans HN7.o hb.size⟩
  have HB8:Sc (Below (w.heap.size+1) (w.alloc (.cells (Qe r) 49)) w9):=⟨HB7.o.trans (hb.mono HN7.o)⟩
  have HW8:Sc (Below w.heap.size w w9):=⟨HW7.o.trans (hb.mono HW7.o.size)⟩
  clear hl ho hb c0 c1 c2 c3 c4 c5 c6 c7 c8 c9
  obtain⟨c0,c1,c2,c3,c4,c5,c6,c7,c8,c9⟩:=Q8z HB8.o
  rw[HHAD.o]at c6
  rw[HHAS.o]at c7
  go_wp2_with fail
  refine(Yq _ _ _ 40 _ _ 32 8 _ HR8.o HL8.o (by omega) (by omega) (by omega) (by omega) (by omega) (by omega)).mono ?_
  rintro e w10 ⟨v9,f9,rfl,hl,ho,hb⟩
  have HE:Sc (Own Yx 1 5 w.heap.size w10 v9 f9/\Below w.heap.size w w10/\f9.length=40):=⟨ho.mono HW8.o.size,HW8.o.trans (hb.mono HW8.o.size),hl⟩
  clear hl ho hb c0 c1 c2 c3 c4 c5 c6 c7 c8 c9
  go_wp2
  go_ret
  exact⟨v9,f9,rfl,HE.o.2.2,HE.o.1,HE.o.2.1⟩
abbrev Zy(ck p q f:Int):Array Value:= #[.int .i64 1,.int .i64 0,.int .i64 1,.int .i64 ck,.int .i64 p,.int .i64 q,.int .i64 f]
abbrev X0z(ck p q f:Int):Value:=.agg (Zy ck p q f)
theorem Eo(w:World)(n lo hi:Int)(h1:lo<=n)(h2:n<=hi):Calls Tryz.prog 120 #[.int .i64 n,.int .i64 lo,.int .i64 hi] w fun e w'=>e=.returned (.bool true)/\w=w':=by
 go_enter Tryz.func120,Tryz.ntmps120
 go_wp2
 go_ret
 exact⟨rfl,rfl⟩
theorem Gz{w:World}{b:Nat}{ck p q f:Int}{t:TypeId}(h:w.heap[b]? =some (.cells (Zy ck p q f) t (0,0))):
  w.cell? ⟨b,0,none⟩=some (.int .i64 1)/\w.cell? ⟨b,1,none⟩=some (.int .i64 0)/\w.cell? ⟨b,2,none⟩=some (.int .i64 1)/\w.cell? ⟨b,3,none⟩=some (.int .i64 ck)/\w.cell? ⟨b,4,none⟩=some (.int .i64 p)/\w.cell? ⟨b,5,none⟩=some (.int .i64 q)/\w.cell? ⟨b,6,none⟩=some (.int .i64 f):=by simp[World.cell?,h]
structure Q3r(ck p q f:Int):Prop where
 c0:0<=ck
 c1:ck<=1073741824
 p0:1<=p
 p1:p<=32
 q0:1<=q
 q1:q<=64
 f0:1<=f
 f1:f<=8
set_option maxRecDepth 4000 in
set_option maxHeartbeats 2000000 in
theorem Q4h(w:World)(ck p q f:Int)(h:Q3r ck p q f):Calls Tryz.prog 88 #[X0z ck p q f] w fun e w'=>e=.returned (.bool true)/\Below w.heap.size w w':=by
 obtain⟨k0,k1,p0,p1,q0,q1,f0,f1⟩:=h
 have HB:Sc (Below w.heap.size w (w.alloc (.cells (Zy ck p q f) 91))):=⟨Q3 (Below.refl _ _) _⟩
 have HC:=Q0 (heap_alloc_new w (.cells (Zy ck p q f) 91))
 obtain⟨w1,hw1⟩:∃w1,w.alloc (.cells (Zy ck p q f) 91)=w1:=⟨_,rfl⟩
 rw[hw1]at HB HC
 obtain⟨c0,c1,c2,c3,c4,c5,c6⟩:=Gz HC.o
 by_cases hk:ck=0
 all_goals
  go_enter Tryz.func88,Tryz.ntmps88
  repeat (go_wp2_with fail;refine(Eo _ _ _ _ (by omega) (by omega)).mono ?_;rintro e w' ⟨rfl,rfl⟩)
  go_wp2
  go_ret
  first|exact⟨rfl,HB.o⟩|exact⟨rfl,Q3 (Below.refl _ _) _⟩
structure Part where
 P:World->Prop
 U:Nat->Prop
 kp:∀{S:Nat->Prop} {w w':World},P w->Kp S w w'->(∀q,U q->¬S q)->P w'
 lt:∀{w:World},P w->∀q,U q->q<w.heap.size
def Part.apart(A C:Part):Prop:=∀q,A.U q->¬C.U q
def Q8(A B:Part)(w w':World):Prop:=B.P w'/\Kp A.U w w'/\∀q,B.U q->A.U q\/w.heap.size<=q
namespace Part
theorem bel(A:Part){w w':World}(h:A.P w)(hb:Below w.heap.size w w'):A.P w':=A.kp h (Kp.Qi hb (fun _=>False)) (fun _ _=>id)
theorem apart.symm{A C:Part}(h:A.apart C):C.apart A:=fun q hc ha=>h q ha hc
theorem Um{A B C:Part}{w w':World}(hl:Q8 A B w w')(hc:C.P w)(h:A.apart C):C.P w'/\B.apart C:=
 ⟨C.kp hc hl.2.1 (fun q hq ha=>h q ha hq),fun q hb hq=>(hl.2.2 q hb).elim (fun ha=>h q ha hq) (fun hn=>by have:=C.lt hc q hq;omega)⟩
theorem same{A:Part}{w w':World}(h:A.P w)(hb:Below w.heap.size w w'):Q8 A A w w':=⟨A.bel h hb,Kp.Qi hb _,fun _ hq=> .inl hq⟩
theorem trans{A B C:Part}{w w1 w2:World}(h:Q8 A B w w1)(k:Q8 B C w1 w2):Q8 A C w w2:=
 ⟨k.1,h.2.1.trans k.2.1 (fun q hq=>h.2.2 q hq),fun q hq=>(k.2.2 q hq).elim (h.2.2 q) (fun hn=> .inr (Nat.le_trans h.2.1.size hn))⟩
theorem from_{A B:Part}{w0 w w':World}(h:Q8 A B w w')(hb:Below w0.heap.size w0 w):Q8 A B w0 w':=
 ⟨h.1,(Kp.Qi hb _).trans h.2.1 (fun _ h=> .inl h),fun q hq=>(h.2.2 q hq).imp id (Nat.le_trans hb.size)⟩
theorem Qs{A B:Part}{w w1 w2:World}(h:Q8 A B w w1)(hb:Below w1.heap.size w1 w2):Q8 A B w w2:=trans h (same h.1 hb)
def both(A C:Part):Part where
 P:=fun w=>A.P w/\C.P w
 U:=fun q=>A.U q\/C.U q
 kp:=fun h hk hn=>⟨A.kp h.1 hk (fun q hq=>hn q (.inl hq)),C.kp h.2 hk (fun q hq=>hn q (.inr hq))⟩
 lt:=fun h q hq=>hq.elim (A.lt h.1 q) (C.lt h.2 q)
theorem left{A B C:Part}{w w':World}(hl:Q8 A B w w')(hc:C.P w)(h:A.apart C):Q8 (both A C) (both B C) w w':=
 ⟨⟨hl.1,(Um hl hc h).1⟩,hl.2.1.mono (fun _ hq=> .inl hq),fun q hq=>hq.elim (fun hb=>(hl.2.2 q hb).imp .inl id) (fun hc=> .inl (.inr hc))⟩
end Part
structure J4 where
 ib:Nat
 off:Nat
 len:Nat
 cap:Nat
 vb:Nat
 bc:Nat
 f:List Int
structure Qw where
 db:Nat
 sr:Nat
 cap:Nat
 s:List J4
 vm:Nat
def Qw.c(D:Qw):List (List Int):=D.s.map (·.f)
structure Eh(w:World)(g:J4):Prop where
 some_:1<=g.len
 fits:g.len<=g.cap
 few:g.cap<=maxLen
 all:∀k,k<g.len->∃b c,w.cell? ⟨g.ib,g.off+k,none⟩=some (.slice (some ⟨b,0,none⟩) 256 c)
 last:w.cell? ⟨g.ib,g.off+(g.len - 1),none⟩=some (.slice (some ⟨g.vb,0,none⟩) 256 g.bc)
 row:Own Yx 1 5 0 w (.slice (some ⟨g.vb,0,none⟩) 256 g.bc) g.f
theorem Eh.kp{S:Nat->Prop}{w w':World}{g:J4}(h:Eh w g)(hk:Kp S w w')(h1:¬S g.ib)(h2:¬S g.vb):Eh w' g:=by
 have hc:∀o v,w.cell? ⟨g.ib,o,none⟩=some v->w'.cell? ⟨g.ib,o,none⟩=some v:=fun o v hv=>by
  have hlt:=World.block_lt_of_cell? _ _ hv
  have:=hk.block g.ib hlt h1
  unfold World.cell? at hv ⊢
  rw[this]
  exact hv
 exact⟨h.some_,h.fits,h.few,fun k hk'=>by obtain⟨b,c,hb⟩:=h.all k hk';exact⟨b,c,hc _ _ hb⟩,hc _ _ h.last,h.row.kp hk (fun q hq=>by injection hq with hq;subst hq;exact h2)⟩
theorem Eh.Y7g{w:World}{g:J4}(h:Eh w g):g.f.length=256:=h.row.len.symm
def Dp(g:J4):Value:=.slice (some ⟨g.ib,g.off,none⟩) g.len g.cap
structure Zb(D:Qw)(w:World):Prop where
 blk:w.heap[D.db]? =some (.cells #[.slice (some ⟨D.sr,0,none⟩) D.s.length D.cap,.int .i64 (-1),.bool false] 144 (0,0))
 fits:D.s.length<=D.cap
 few:D.cap<=maxLen
 row:∃cs,w.heap[D.sr]? =some (.cells cs 156 (0,0))/\∀i (h:i<D.s.length),cs[i]? =some (Dp D.s[i])
 Y3h:∀g∈D.s,Eh w g
 Q5u:∀g∈D.s,g.len<=D.vm
 ne:D.db≠D.sr
 apart:∀g∈D.s,g.ib≠D.sr/\g.ib≠D.db/\g.vb≠D.sr/\g.vb≠D.db
theorem Zb.cells{D:Qw}{w:World}(h:Zb D w):w.cell? ⟨D.db,0,none⟩=some (.slice (some ⟨D.sr,0,none⟩) D.s.length D.cap)/\w.cell? ⟨D.db,1,none⟩=some (.int .i64 (-1))/\w.cell? ⟨D.db,2,none⟩=some (.bool false)/\D.db<w.heap.size:=by
 have hb:=h.blk
 exact⟨by simp[World.cell?,hb],by simp[World.cell?,hb],by simp[World.cell?,hb],Q6 hb⟩
theorem Zb.sec{D:Qw}{w:World}(h:Zb D w){i:Nat}{g:J4}(hg:D.s[i]? =some g):w.cell? ⟨D.sr,i,none⟩=some (Dp g)/\Eh w g:=by
 obtain⟨hlt,he⟩:=List.getElem?_eq_some_iff.1 hg
 obtain⟨cs,hc,hall⟩:=h.row
 have:=hall i hlt
 rw[he]at this
 exact⟨by simp[World.cell?,hc,this],h.Y3h g (List.mem_of_getElem? hg)⟩
def Qo(D:Qw):Part where
 P:=Zb D
 U:=fun q=>q=D.db\/q=D.sr\/∃g∈D.s,q=g.ib\/q=g.vb
 kp:=fun {S w w'} h hk hn=>by
  obtain⟨cs,hc,hall⟩:=h.row
  exact⟨hk.at h.blk (hn _ (.inl rfl)),h.fits,h.few,⟨cs,hk.at hc (hn _ (.inr (.inl rfl))),hall⟩,fun g hg=>(h.Y3h g hg).kp hk (hn _ (.inr (.inr ⟨g,hg,.inl rfl⟩))) (hn _ (.inr (.inr ⟨g,hg,.inr rfl⟩))),h.Q5u,h.ne,h.apart⟩
 lt:=fun {w} h q hq=>by
  obtain⟨cs,hc,hall⟩:=h.row
  rcases hq with rfl|rfl|⟨g,hg,rfl|rfl⟩
  ·exact Q6 h.blk
  ·exact Q6 hc
  ·exact World.block_lt_of_cell? _ _ (h.Y3h g hg).last
  ·exact((h.Y3h g hg).row.lt g.vb rfl).2
set_option maxRecDepth 4000 in
set_option maxHeartbeats 1000000 in
theorem Cw(D:Qw)(w:World)(h:Zb D w):Calls Tryz.prog 132 #[.pointer (some ⟨D.db,0,none⟩)] w fun e w'=>e=.returned (.bool true)/\w=w':=by
 obtain⟨c0,c1,c2,lt⟩:=h.cells
 obtain⟨db,hdb⟩:∃db,D.db=db:=⟨_,rfl⟩
 rw[hdb]at c0 c1 c2 lt ⊢
 clear h hdb
 go_enter Tryz.func132,Tryz.ntmps132
 go_wp2
 go_ret
 exact⟨rfl,rfl⟩
theorem Q1n{P:Program}(w:World)(t ty:TypeId)(e:TypeId)(i:TypeInfo)(z:Value)(size bytes:Nat)(ht:P.underlying t=some (.slice e))(hi:P.info? e=some i)(hz:i.zero=some z)
  (hsize:i.size=size) (hby:i.bytes=bytes) (ba:Option Addr) (ad:Addr) (m c:Nat) (news:List Value) (hl:news.length=m*size) (hnews:∀j u,news[j]? =some u->w.cell? (ad.add j)=some u) (h1:∀u∈news,u.oneCell'=true)
  (hm:0<m) (h63:m<=maxLen) (hbytes:m*bytes<=140737488355328):
  (Builtin.append_ #[t,t] ty #[.slice ba 0 0,.slice (some ad) m c]).run P w=(Builtin.append_ #[t,t] ty #[.slice none 0 0,.slice (some ad) m c]).run P w:=by
 subst hsize hby
 have hsrc:Src P i.size t (.slice (some ad) m c) m news w:=Src.ofSlice w ht ad m c news hl hnews h1
 have hfit:Builtin.nextslicecap (0+m) 0*i.bytes<=281474976710656:=by
  have:Builtin.nextslicecap (0+m) 0=m:=by simp[Builtin.nextslicecap];omega
  rw[this];omega
 have h63':((0+m:Nat):Int)<=9223372036854775807:=by unfold maxLen at h63;omega
 rw[run_append_grow_src w t t ty e i z ht hi hz ba 0 0 [] (by cases ba with|none=>exact run_firstCells_none _ _ _ _ _|some b=>exact run_firstCells_some _ _ 0 b 0 0 [] (by simp) (by simp)) _ m news hsrc (by omega) h63' hfit,
  run_append_grow_src w t t ty e i z ht hi hz none 0 0 [] (run_firstCells_none _ _ _ _ _) _ m news hsrc (by omega) h63' hfit]
theorem Q0r{P:Program}{w:World}{ops:Array Oper}{o:Oper}{a:Act}{K:Act->World->Prop}{E:Prop}(hgd:o.guard=none)(s x:Operand)(t:TypeId)
  (ho:o.op=.call {callee:=.builtin .append,args:= #[s,x],argTypes:= #[t,t]})
  (e:TypeId) (i:TypeInfo) (z:Value) (size bytes:Nat) (ht:P.underlying t=some (.slice e)) (hi:P.info? e=some i) (hz:i.zero=some z)
  (hsize:i.size=size) (hby:i.bytes=bytes) (hzs:z.cells.size=size) (hsz:0<size)
  (ba:Option Addr) (hs:a.eval s=.slice ba 0 0)
  (ad:Addr) (m c:Nat) (news:List Value) (hx:a.eval x=.slice (some ad) m c) (hl:news.length=m*size) (hnews:∀j u,news[j]? =some u->w.cell? (ad.add j)=some u) (h1:∀u∈news,u.oneCell'=true)
  (hm:0<m) (h63:m<=maxLen) (hbytes:m*bytes<=140737488355328) {Q:Exit->Act->World->Prop}
  (h:∀g cap w',w'.ownsRow w.heap.size e size (.slice (some ⟨g,0,none⟩) m cap) m news->Below w.heap.size w w'->K (a.put o.dst (.slice (some ⟨g,0,none⟩) m cap)) w'):
  if Region.wanted o (yielded ops a.tmps)=true then Oper.wp P o a w K Q else E:=by
 have hw:Region.wanted o (yielded ops a.tmps)=true:=by simp[Region.wanted,hgd]
 rw[if_pos hw]
 obtain⟨g,cap,w',hr,h2,h3,h4,h5⟩:=run_append_lies (P:=P) w t o.type w.heap.size e i z size bytes ht hi hz hsize hby hzs hsz (.slice none 0 0) 0 [] ⟨by simp,.inl ⟨rfl,rfl⟩⟩ ad m c news hl hnews h1 hm (by omega) (by rw[Nat.zero_add];exact hbytes) (Nat.le_refl _) w.heap.size rfl
 rw[Nat.zero_add]at hr h2
 rw[<-Q1n w t o.type e i z size bytes ht hi hz hsize hby ba ad m c news hl hnews h1 hm h63 hbytes]at hr
 unfold Oper.wp execOp
 simp only[ho,resolve,invoke,builtin,Sem.run_bind,Sem.run_pure,Result.andThen_ok,List.map_toArray,List.map_cons,List.map_nil,hs,hx,hr]
 exact h g cap w' (by simpa using h2) ((Below.refl _ _).grown h3 (Nat.le_refl _) (fun k hk=>by simp[Value.ownBlock]at hk))
end Go.Proofs.YtoapihepdallbaaGreatDoor
