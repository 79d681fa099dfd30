import Derived.Deep.RegionWith
import Derived.Test.YtoapihepdallbaaGreatDoorP02
namespace Go.Proofs.YtoapihepdallbaaGreatDoor
open Go.RowKit
section
set_option maxHeartbeats 1000000
theorem E7(p s a b k:Int)(w:World):
  Calls Tryz.prog 166 #[.agg #[.int .i64 p,.int .i64 s,.int .i64 a,.int .i64 b],.int .i64 k] w fun e w'=>e=.returned (.int .i64 (O1 p k))/\Below w.heap.size w w':=by
 go_enter Tryz.func166,Tryz.ntmps166
 go_wp2_with (go_at_call 167;refine(Q1y _ _ _).mono ?_;rintro e w' ⟨rfl,rfl⟩)
 go_ret
 exact⟨rfl,(Below.refl _ _).alloc (Nat.le_refl _) _⟩
theorem Q7g(w:World)(base:Nat)(v:Value)(l:List (Int×Int×Int×Int))(k:Int)(hown:Own Qg 4 58 base w v l)(hr:Qd l)(hlen:l.length<=1000000):
  Calls Tryz.prog 165 #[v,.int .i64 k,.func (.func 166) #[] #[]] w fun e w'=>
   e=.returned (.tuple #[.int .i64 (pos l k),.bool (has l k)])/\Below w.heap.size w w':=by
 obtain⟨A,cap,rfl,hnc,hcm⟩:=hown.slice
 have HR:Sc (Qd l):=⟨hr⟩
 have HO:Sc (Own Qg 4 58 base w (.slice A l.length cap) l):=⟨hown⟩
 clear hr hown
 go_enter Tryz.func165,Tryz.ntmps165
 go_wp2
 go_loopg [9,10] l.length (fun kx s9 s10 wr=>∃lo hi:Nat,s9=.int .i64 lo/\s10=.int .i64 hi/\lo<=hi/\hi<=l.length/\hi - lo<=kx/\Sc (Below w.heap.size w wr)/\
  Sc ((∀t x,t<lo->l[t]? =some x->x.1<k)/\(∀t x,hi<=t->l[t]? =some x->k<=x.1)))
 case atStart=>exact⟨0,l.length,rfl,rfl,Nat.zero_le _,Nat.le_refl _,by omega,⟨Below.refl _ _⟩,⟨fun t x ht=>absurd ht (Nat.not_lt_zero _),fun t x ht hx=>by rw[List.getElem?_eq_none ht]at hx;cases hx⟩⟩
 case round=>
  obtain⟨lo,hi,rfl,rfl,hlh,hin,hg,HB,I⟩:=hrel
  by_cases hlt:lo<hi
  ·obtain⟨g,cq,he,hgb,hgw,_,_⟩:=HO.o.form (by omega)
   injection he with hA _ hC
   subst hA hC
   obtain⟨x,hx⟩:∃x,l[(lo+hi) / 2]? =some x:=⟨_,List.getElem?_eq_getElem (by omega)⟩
   have HO1:=HO.o.below HB.o
   obtain⟨c0,c1,c2,c3⟩:=HO1.V6 hx
   have HX:Sc (l[(lo+hi) / 2]? =some x):=⟨hx⟩
   clear hx HO1
   by_cases hc:O1 x.1 k<0
   ·go_wp2_with (go_at_call 166;refine(E7 _ _ _ _ _ _).mono ?_;rintro e w' ⟨rfl,hb⟩)
    go_roundg (hi - ((lo+hi) / 2+1))
    case measure=>omega
    case rel=>
     refine⟨(lo+hi) / 2+1,hi,by rw[show((lo:Int)+(hi:Int)) / 2+1=(((lo+hi) / 2+1:Nat):Int) by omega],rfl,by omega,hin,Nat.le_refl _,⟨HB.o.trans (hb.mono HB.o.size)⟩,⟨fun t y ht hy=> ?_,I.o.2⟩⟩
     have h1:=HR.o.le (show t<=(lo+hi) / 2 by omega) hy HX.o
     have h2:=Q3c.1 hc
     omega
   ·go_wp2_with (go_at_call 166;refine(E7 _ _ _ _ _ _).mono ?_;rintro e w' ⟨rfl,hb⟩)
    go_roundg ((lo+hi) / 2 - lo)
    case measure=>omega
    case rel=>
     refine⟨lo,(lo+hi) / 2,rfl,by rw[show((lo:Int)+(hi:Int)) / 2=(((lo+hi) / 2:Nat):Int) by omega],by omega,by omega,Nat.le_refl _,⟨HB.o.trans (hb.mono HB.o.size)⟩,⟨I.o.1,fun t y ht hy=> ?_⟩⟩
     have h1:=HR.o.le ht HX.o hy
     have h2:¬x.1<k:=fun h=>by have:=Q3c.2 h;omega
     omega
  ·obtain rfl:hi=lo:=by omega
   have hp:pos l k=hi:=Oz k l hi hin I.o.1 I.o.2
   by_cases hn:hi<l.length
   ·obtain⟨g,cq,he,hgb,hgw,_,_⟩:=HO.o.form (by omega)
    injection he with hA _ hC
    subst hA hC
    obtain⟨x,hx⟩:∃x,l[hi]? =some x:=⟨_,List.getElem?_eq_getElem (by omega)⟩
    have HO1:=HO.o.below HB.o
    obtain⟨c0,c1,c2,c3⟩:=HO1.V6 hx
    have hhas:has l k=decide (x.1=k):=X1x HR.o k (by rw[hp];exact hx)
    have HP:Sc (pos l k=hi):=⟨hp⟩
    have HH:Sc (has l k=decide (x.1=k)):=⟨hhas⟩
    clear hx HO1 hp hhas
    by_cases hc:O1 x.1 k=0
    ·have hb0:(O1 x.1 k==0)=true:=by rw[hc];rfl
     have hd:=Q3b.1 hc
     have HD:Sc (x.1=k):=⟨hd⟩
     clear hd hc
     go_wp2_with (go_at_call 166;refine(E7 _ _ _ _ _ _).mono ?_;rintro e w' ⟨rfl,hb⟩)
     go_ret2
     exact⟨by rw[HP.o,HH.o,decide_eq_true HD.o];rfl,HB.o.trans (hb.mono HB.o.size)⟩
    ·have hb0:(O1 x.1 k==0)=false:=by simpa using hc
     have HD:Sc (¬x.1=k):=⟨fun h=>hc (Q3b.2 h)⟩
     clear hc
     go_wp2_with (go_at_call 166;refine(E7 _ _ _ _ _ _).mono ?_;rintro e w' ⟨rfl,hb⟩)
     go_ret2
     exact⟨by rw[HP.o,HH.o,decide_eq_false HD.o];rfl,HB.o.trans (hb.mono HB.o.size)⟩
   ·have hhas:has l k=false:=X1w HR.o k (by omega)
    have HP:Sc (pos l k=hi):=⟨hp⟩
    have HH:Sc (has l k=false):=⟨hhas⟩
    clear hp hhas
    go_wp2
    go_ret2
    exact⟨by rw[HP.o,HH.o];rfl,HB.o⟩
end
section
set_option maxHeartbeats 2000000
set_option maxRecDepth 4000
theorem Y2h:(Tryz.prog.info? 58).map (fun i=>(i.zero,i.size,i.bytes))=some (some (.agg #[.int .i64 0,.int .i64 0,.int .i64 0,.int .i64 0]),4,32):=by kernel_rfl
theorem X9p{w:World}{base:Nat}{e:TypeId}{v:Value}{l:List (Int×Int×Int×Int)}{x:Int×Int×Int×Int}(h:w.ownsRow base e 4 v (l.length+1) (flat Qg l++Qg x)):Own Qg 4 e base w v (l++[x]):=by
 unfold Own
 rw[Qc,Qm,List.length_append]
 exact h
def D9(base:Nat)(row:Option Nat)(l:List (Int×Int×Int×Int))(w:World)(e:Ending)(w':World):Prop:=
 ∃v',e=.returned v'/\Own Qg 4 58 base w' v' l/\w.grownBy w' row/\(v'.ownBlock=row\/v'.ownBlock=some w.heap.size)
theorem Q7f(w:World)(base:Nat)(v:Value)(l:List (Int×Int×Int×Int))(x:Int×Int×Int×Int)(hown:Own Qg 4 58 base w v l)(hlen:l.length<=1000000)
  (b:Nat) (hb:w.heap[b]? =some (.cells (Qg x).toArray 58 (0,0))) (hbase:base<=w.heap.size):
  Calls Tryz.prog 152 #[v,.int .i64 l.length,.slice (some ⟨b,0,none⟩) 1 1] w (D9 base v.ownBlock (l++[x]) w):=by
 obtain⟨i0,hi,hz0,hz1,hz2⟩:=info_parts Y2h
 obtain⟨A,cap,rfl,hnc,hcm⟩:=hown.slice
 have HO:Sc (Own Qg 4 58 base w (.slice A l.length cap) l):=⟨hown⟩
 have HB:Sc (w.heap[b]? =some (.cells (Qg x).toArray 58 (0,0))):=⟨hb⟩
 clear hown hb
 rw[Vy]
 go_enter Tryz.func152,Tryz.ntmps152
 go_wp2_with (at_builtin;refine wpList_append_own_at _ rfl _ _ 31 rfl base 58 i0 (.agg #[.int .i64 0,.int .i64 0,.int .i64 0,.int .i64 0]) 4 32 Tryz.underlying31 hi hz0 hz1 hz2 rfl (by decide) _ l.length (flat Qg l) rfl HO.o ⟨b,0,none⟩ 1 1 (Qg x) rfl rfl ?c1 ?c2 ?c3 ?c4 hbase ?_)
 case c1=>exact World.news_of_block HB.o
 case c2=>exact X8.one x
 case c3=>unfold maxLen;omega
 case c4=>omega
 all_goals
  intro v' w' h1 h2 h3 h4
  rw[Vy]at h2 h4
  have H1:Sc (w'.ownsRow base 58 4 v' (l.length+1) (flat Qg l++Qg x)):=⟨h1⟩
  have H2:=Q0 h2
  have H4:=Q0 h4
  clear h1 h2 h3 h4
  go_wp2
  go_ret
  exact⟨v',rfl,X9p H1.o,H2.o,H4.o⟩
theorem X5g{cur:Array Value}{l:List (Int×Int×Int×Int)}{cap k:Nat}(x:Int×Int×Int×Int)(hs:cur.size=cap*4)(ht:cur.toList.take (l.length*4)=flat Qg l)(hk:k<=l.length)(hn:l.length+1<=cap):
  (lay (lay cur.toList ((k+1)*4) (flat Qg (l.drop k))) (k*4) (Qg x)).take ((l.length+1)*4)=flat Qg (l.take k++x::l.drop k):=by
 have h1:(flat Qg (l.drop k)).length=(l.length - k)*4:=by rw[X8.Qp,List.length_drop]
 have hcl:cur.toList.length=cap*4:=by rw[Array.length_toList,hs]
 have h2:(Qg x).length=4:=rfl
 have hl1:(lay cur.toList ((k+1)*4) (flat Qg (l.drop k))).length=cap*4:=by rw[Y8 (by omega),hcl]
 have hT:flat Qg (l.take k++x::l.drop k)=flat Qg (l.take k)++(Qg x++flat Qg (l.drop k)):=by rw[Qc,Z1]
 have h3:(flat Qg (l.take k)).length=k*4:=by rw[X8.Qp,List.length_take];congr 1;omega
 rw[hT]
 apply List.ext_getElem?
 intro j
 rw[List.getElem?_take]
 by_cases hj:j<(l.length+1)*4
 ·rw[if_pos hj,Gi _ _ _ (by omega),Gi _ _ _ (by omega)]
  by_cases c1:j<k*4
  ·rw[if_pos c1,if_pos (by omega),List.getElem?_append_left (by omega),<-X8.Ub l k,List.getElem?_take,if_pos c1,<-ht,List.getElem?_take,if_pos (by omega)]
  ·rw[if_neg c1,List.getElem?_append_right (by omega),h3]
   by_cases c2:j<k*4+4
   ·rw[if_pos (by omega),List.getElem?_append_left (by omega)]
   ·rw[if_neg (by omega),if_neg (by omega),if_pos (by omega),List.getElem?_append_right (by omega),h2]
    congr 1
    omega
 ·rw[if_neg hj,List.getElem?_eq_none (by simp only[List.length_append];omega)]
theorem Q2z(w:World)(base g cap:Nat)(l:List (Int×Int×Int×Int))(k:Nat)(x:Int×Int×Int×Int)(hown:Own Qg 4 58 base w (.slice (some ⟨g,0,none⟩) l.length cap) l)(hlen:l.length<=1000000)(hk:k<l.length)(hroom:l.length+1<=cap)
  (b:Nat) (hb:w.heap[b]? =some (.cells (Qg x).toArray 58 (0,0))) (hne:b≠g):
  Calls Tryz.prog 152 #[.slice (some ⟨g,0,none⟩) l.length cap,.int .i64 k,.slice (some ⟨b,0,none⟩) 1 1] w (D9 base (some g) (l.take k++x::l.drop k) w):=by
 obtain⟨i0,hi,hz0,hz1,hz2⟩:=info_parts Y2h
 obtain⟨cur,hg,hbg,_,hn,hcm,hs,ht⟩:=hown.block
 have hov:∀lb cb,(callFunc 168 #[.slice (some ⟨b,0,none⟩) 1 1,.slice (some ⟨g,(k+1)*4,none⟩) lb cb]).run Tryz.prog w=.ok (.value (.bool false)) w:=fun lb cb=>by
  rw[run_callFunc_extern Tryz.func168 (by kernel_rfl) (by kernel_rfl) (by kernel_rfl) (e:=Extern.SlicesOverlaps.overlaps #[31,31] #[58]) (by kernel_rfl),
   Lib.run_overlaps_apart w 31 58 58 Tryz.underlying31 4 (fun w=>by simp[sizeOf,typeInfo,hi,hz1]) ⟨b,0,none⟩ ⟨g,(k+1)*4,none⟩ 1 1 lb cb hne 58 58 4 cur.size (by simp[World.shape?,hb]) (by simp[World.shape?,hg]) (by omega) (by simp[World.frozen?,hb]) (by simp[World.frozen?,hb])]
  rfl
 have hcl:(flat Qg (l.drop k)).length=(l.length - k)*4:=by rw[X8.Qp,List.length_drop]
 have hcp1:∀ty dc sc,(Builtin.copy_ #[31,31] ty #[.slice (some ⟨g,(k+1)*4,none⟩) (l.length - k) dc,.slice (some ⟨g,k*4,none⟩) (l.length+1 - k) sc]).run Tryz.prog w.drew=.ok (goInt (Nat.min (l.length+1 - k) (l.length - k))) (w.drew.setRow g (lay cur.toList ((k+1)*4) (flat Qg (l.drop k))).toArray):=fun ty dc sc=>
  Zm w.drew _ _ ty 58 58 i0 Tryz.underlying31 hi g ((k+1)*4) cur hg (l.length - k) dc ⟨g,k*4,none⟩ (l.length+1 - k) sc (flat Qg (l.drop k)) (by rw[hcl,hz1];congr 1;simp only[Nat.min_def];split<;>omega)
   (fun j u hj=>by
    have ha:(⟨g,k*4,none⟩:Addr).add j=⟨g,k*4+j,none⟩:=by unfold Addr.add;split<;>simp_all
    rw[ha]
    have hd:=X8.Gc l k
    rw[<-hd,List.getElem?_drop,<-ht,List.getElem?_take]at hj
    split at hj
    ·simp only[World.cell?,World.drew,hg]
     simpa using hj
    ·cases hj) (X8.Xk _) (by rw[hcl];omega)
 obtain⟨W1,hW1⟩:∃W1,W1=w.drew.setRow g (lay cur.toList ((k+1)*4) (flat Qg (l.drop k))).toArray:=⟨_,rfl⟩
 rw[<-hW1]at hcp1
 have hg1:W1.heap[g]? =some (.cells (lay cur.toList ((k+1)*4) (flat Qg (l.drop k))).toArray 58 (0,0)):=by rw[hW1];exact setRow_heap w.drew g cur _ _ _ hg
 have hb1:W1.heap[b]? =some (.cells (Qg x).toArray 58 (0,0)):=by rw[hW1,setRow_other w.drew g b _ hne];exact hb
 have hcl0:cur.toList.length=cap*4:=by rw[Array.length_toList,hs]
 have hl1:(lay cur.toList ((k+1)*4) (flat Qg (l.drop k))).length=cap*4:=by rw[Y8 (by rw[hcl,hcl0];omega),hcl0]
 have hcp2:∀ty dc,(Builtin.copy_ #[31,31] ty #[.slice (some ⟨g,k*4,none⟩) (l.length+1 - k) dc,.slice (some ⟨b,0,none⟩) 1 1]).run Tryz.prog W1=.ok (goInt (Nat.min 1 (l.length+1 - k))) (W1.setRow g (lay (lay cur.toList ((k+1)*4) (flat Qg (l.drop k))) (k*4) (Qg x)).toArray):=fun ty dc=>
  Zm W1 _ _ ty 58 58 i0 Tryz.underlying31 hi g (k*4) _ hg1 (l.length+1 - k) dc ⟨b,0,none⟩ 1 1 (Qg x) (by rw[hz1,X8.len];simp only[Nat.min_def];split<;>omega)
   (World.news_of_block hb1) (X8.one x) (by rw[X8.len,List.size_toArray,hl1];omega)
 obtain⟨W2,hW2⟩:∃W2,W2=W1.setRow g (lay (lay cur.toList ((k+1)*4) (flat Qg (l.drop k))) (k*4) (Qg x)).toArray:=⟨_,rfl⟩
 rw[<-hW2]at hcp2
 have HG2:Sc (Own Qg 4 58 base W2 (.slice (some ⟨g,0,none⟩) (l.length+1) cap) (l.take k++x::l.drop k)):=⟨by
  refine Own.Jc (cur:=(lay (lay cur.toList ((k+1)*4) (flat Qg (l.drop k))) (k*4) (Qg x)).toArray) ?_ hbg X8 ?_ hroom hcm ?_ ?_
  ·rw[hW2];exact setRow_heap W1 g _ _ _ _ hg1
  ·simp only[List.length_append,List.length_cons,List.length_take,List.length_drop];omega
  ·rw[List.size_toArray,Y8 (by rw[X8.len,hl1];omega),hl1]
  ·exact X5g x hs ht (by omega) hroom⟩
 have HF:Sc (w.grownBy W2 (some g)):=⟨by
  rw[hW2,hW1]
  have hd:w.grownBy w.drew (some g):=⟨rfl,rfl,rfl,Nat.le_refl _,fun _ _ _=>rfl⟩
  exact(hd.trans (J1 w.drew g _)).trans (J1 _ g _)⟩
 have C1:=Q0 hcp1
 have C2:=Q0 hcp2
 have n1:((k:Int)==(l.length:Int))=false:=by simp;omega
 have n2:¬cap=k:=by omega
 have n3:¬cap=k+1:=by omega
 have n4:¬(cap:Int)<(l.length:Int)+1:=by omega
 clear hcp1 hcp2 hW1 hW2 hg hb hg1 hb1 hs ht hown hcl hl1 hcl0
 go_enter Tryz.func152,Tryz.ntmps152
 go_wp2
 have hw1:IntKind.i64.wrap ((k:Int)+1)=(k:Int)+1:=by rw[IntKind.wrap_i64];omega
 have hw2:(0:Int)<=(k:Int)+1:=by omega
 have hw3:((k:Int)+1).toNat=k+1:=by omega
 have hw4:(k:Int)<=(l.length:Int)+1:=by omega
 have hw5:k<=l.length:=by omega
 go_region_law (go_loud (refine Ua rfl (.tmp 73) (.tmp 76) 31 31 rfl (.slice (some ⟨g,(k+1)*4,none⟩) (l.length - k) (cap - (k+1))) (.slice (some ⟨g,k*4,none⟩) (l.length+1 - k) (cap - k)) (by simp[Act.eval,Act.put]) (by simp[Act.eval,Act.put]) (C1.o 3 _ _) ?_))
 clear hw1 hw2 hw3 hw4 hw5
 go_wp2_with (with_reducible refine G3 W1 rfl (.tmp 80) (.tmp 81) 31 31 rfl (.slice (some ⟨g,k*4,none⟩) (l.length+1 - k) (cap - k)) (.slice (some ⟨b,0,none⟩) 1 1) rfl rfl (C2.o 3 _) ?_)
 go_ret
 exact⟨_,rfl,HG2.o,HF.o,.inl rfl⟩
theorem X9j{cur cur1:Array Value}{l:List (Int×Int×Int×Int)}{C k:Nat}(x:Int×Int×Int×Int)(hs:cur1.size=C*4)(ht:cur.toList.take (l.length*4)=flat Qg l)(hp:cur1.toList.take (k*4)=cur.toList.take (k*4))(hk:k<=l.length)(hn:l.length+1<=C):
  (lay (lay cur1.toList (k*4) (Qg x)) ((k+1)*4) (flat Qg (l.drop k))).take ((l.length+1)*4)=flat Qg (l.take k++x::l.drop k):=by
 have h1:(flat Qg (l.drop k)).length=(l.length - k)*4:=by rw[X8.Qp,List.length_drop]
 have hcl:cur1.toList.length=C*4:=by rw[Array.length_toList,hs]
 have h2:(Qg x).length=4:=rfl
 have hl1:(lay cur1.toList (k*4) (Qg x)).length=C*4:=by rw[Y8 (by omega),hcl]
 have hT:flat Qg (l.take k++x::l.drop k)=flat Qg (l.take k)++(Qg x++flat Qg (l.drop k)):=by rw[Qc,Z1]
 have h3:(flat Qg (l.take k)).length=k*4:=by rw[X8.Qp,List.length_take];congr 1;omega
 have hq:cur1.toList.take (k*4)=flat Qg (l.take k):=by
  rw[hp,<-X8.Ub l k,<-ht,List.take_take]
  congr 1
  omega
 rw[hT]
 apply List.ext_getElem?
 intro j
 rw[List.getElem?_take]
 by_cases hj:j<(l.length+1)*4
 ·rw[if_pos hj,Gi _ _ _ (by omega),Gi _ _ _ (by omega)]
  by_cases c1:j<k*4
  ·rw[if_pos (by omega),if_pos c1,List.getElem?_append_left (by omega),<-hq,List.getElem?_take,if_pos c1]
  ·rw[List.getElem?_append_right (by omega),h3]
   by_cases c2:j<k*4+4
   ·rw[if_pos (by omega),if_neg c1,if_pos (by omega),List.getElem?_append_left (by omega)]
   ·rw[if_neg (by omega),if_pos (by omega),List.getElem?_append_right (by omega),h2]
    congr 1
    omega
 ·rw[if_neg hj,List.getElem?_eq_none (by simp only[List.length_append];omega)]
theorem Q5s(w:World)(base g:Nat)(l:List (Int×Int×Int×Int))(k:Nat)(x:Int×Int×Int×Int)(hown:Own Qg 4 58 base w (.slice (some ⟨g,0,none⟩) l.length l.length) l)(hlen:l.length<=1000000)(hk:k<l.length)
  (b:Nat) (hb:w.heap[b]? =some (.cells (Qg x).toArray 58 (0,0))) (hbase:base<=w.heap.size):
  Calls Tryz.prog 152 #[.slice (some ⟨g,0,none⟩) l.length l.length,.int .i64 k,.slice (some ⟨b,0,none⟩) 1 1] w (D9 base (some g) (l.take k++x::l.drop k) w):=by
 obtain⟨i0,hi,hz0,hz1,hz2⟩:=info_parts Y2h
 obtain⟨cur,hg,hbg,_,hn,hcm,hs,ht⟩:=hown.block
 obtain⟨C,cur1,hap,hs1,hp1,hC,hC2⟩:=Gu (P:= Tryz.prog) w 31 3 31 58 i0 (.agg #[.int .i64 0,.int .i64 0,.int .i64 0,.int .i64 0]) .i64 .i64 Tryz.underlying31 Tryz.underlying3 hi hz0 (by rw[hz1];rfl) g k l.length (l.length+1 - k) cur hg (by rw[hz1,hs];omega) (by omega) (by omega) (by omega) (by rw[hz2];omega) (by omega)
 rw[hz1]at hs1 hp1
 rw[show k+(l.length+1 - k)=l.length+1 by omega]at hap hC
 rw[show((l.length+1 - k:Nat):Int)=(l.length:Int)+1 - k by omega]at hap
 obtain⟨W1,hW1⟩:∃W1,W1=w.drew.alloc (.cells cur1 58):=⟨_,rfl⟩
 rw[<-hW1]at hap
 obtain⟨G,hG⟩:∃G,G=w.heap.size:=⟨_,rfl⟩
 have hbw:b<w.heap.size:=(Array.getElem?_eq_some_iff.1 hb).1
 have hgw:g<w.heap.size:=(Array.getElem?_eq_some_iff.1 hg).1
 have hG1:W1.heap[G]? =some (.cells cur1 58 (0,0)):=by rw[hW1,hG];exact heap_alloc_new w.drew _
 have hold:∀q,q<w.heap.size->W1.heap[q]? =w.heap[q]? :=fun q hq=>by rw[hW1];exact heap_alloc_old w.drew _ hq
 rw[<-hG]at hap
 have hcl0:cur1.toList.length=C*4:=by rw[Array.length_toList,hs1]
 have hcp1:∀ty dc,(Builtin.copy_ #[31,31] ty #[.slice (some ⟨G,k*4,none⟩) (l.length+1 - k) dc,.slice (some ⟨b,0,none⟩) 1 1]).run Tryz.prog W1=.ok (goInt (Nat.min 1 (l.length+1 - k))) (W1.setRow G (lay cur1.toList (k*4) (Qg x)).toArray):=fun ty dc=>
  Zm W1 _ _ ty 58 58 i0 Tryz.underlying31 hi G (k*4) _ hG1 (l.length+1 - k) dc ⟨b,0,none⟩ 1 1 (Qg x) (by rw[hz1,X8.len];simp only[Nat.min_def];split<;>omega)
   (World.news_of_block (by rw[hold b hbw];exact hb)) (X8.one x) (by rw[X8.len,hs1];omega)
 obtain⟨W2,hW2⟩:∃W2,W2=W1.setRow G (lay cur1.toList (k*4) (Qg x)).toArray:=⟨_,rfl⟩
 rw[<-hW2]at hcp1
 have hG2:W2.heap[G]? =some (.cells (lay cur1.toList (k*4) (Qg x)).toArray 58 (0,0)):=by rw[hW2];exact setRow_heap W1 G _ _ _ _ hG1
 have hg2:W2.heap[g]? =some (.cells cur 58 (0,0)):=by rw[hW2,setRow_other W1 G g _ (by omega),hold g hgw];exact hg
 have hcl:(flat Qg (l.drop k)).length=(l.length - k)*4:=by rw[X8.Qp,List.length_drop]
 have hl1:(lay cur1.toList (k*4) (Qg x)).length=C*4:=by rw[Y8 (by rw[X8.len,hcl0];omega),hcl0]
 have hcp2:∀ty dc sc,(Builtin.copy_ #[31,31] ty #[.slice (some ⟨G,(k+1)*4,none⟩) (l.length - k) dc,.slice (some ⟨g,k*4,none⟩) (l.length - k) sc]).run Tryz.prog W2.drew=.ok (goInt (Nat.min (l.length - k) (l.length - k))) (W2.drew.setRow G (lay (lay cur1.toList (k*4) (Qg x)) ((k+1)*4) (flat Qg (l.drop k))).toArray):=fun ty dc sc=>
  Zm W2.drew _ _ ty 58 58 i0 Tryz.underlying31 hi G ((k+1)*4) _ hG2 (l.length - k) dc ⟨g,k*4,none⟩ (l.length - k) sc (flat Qg (l.drop k)) (by rw[hcl,hz1];congr 1;simp only[Nat.min_def];split<;>omega)
   (fun j u hj=>by
    have ha:(⟨g,k*4,none⟩:Addr).add j=⟨g,k*4+j,none⟩:=by unfold Addr.add;split<;>simp_all
    rw[ha]
    have hd:=X8.Gc l k
    rw[<-hd,List.getElem?_drop,<-ht,List.getElem?_take]at hj
    split at hj
    ·simp only[World.cell?,World.drew,hg2]
     simpa using hj
    ·cases hj) (X8.Xk _) (by rw[hcl,List.size_toArray,hl1];omega)
 obtain⟨W3,hW3⟩:∃W3,W3=W2.drew.setRow G (lay (lay cur1.toList (k*4) (Qg x)) ((k+1)*4) (flat Qg (l.drop k))).toArray:=⟨_,rfl⟩
 rw[<-hW3]at hcp2
 have HG3:Sc (Own Qg 4 58 base W3 (.slice (some ⟨G,0,none⟩) (l.length+1) C) (l.take k++x::l.drop k)):=⟨by
  refine Own.Jc (cur:=(lay (lay cur1.toList (k*4) (Qg x)) ((k+1)*4) (flat Qg (l.drop k))).toArray) ?_ (by omega) X8 ?_ hC hC2 ?_ ?_
  ·rw[hW3];exact setRow_heap W2.drew G _ _ _ _ hG2
  ·simp only[List.length_append,List.length_cons,List.length_take,List.length_drop];omega
  ·rw[List.size_toArray,Y8 (by rw[hcl,hl1];omega),hl1]
  ·exact X9j x hs1 ht hp1 (by omega) hC⟩
 have HF:Sc (w.grownBy W3 (some g)):=⟨by
  refine⟨by rw[hW3,hW2,hW1];rfl,by rw[hW3,hW2,hW1];rfl,by rw[hW3,hW2,hW1];rfl,?_,fun q hq hne=> ?_⟩
  ·have hz:(w.drew.alloc (.cells cur1 58)).heap.size=w.heap.size+1:=by simp
   rw[hW3,hW2,hW1]
   simp[World.setRow]
  ·rw[hW3,setRow_other W2.drew G q _ (by omega)]
   show W2.heap[q]? =_
   rw[hW2,setRow_other W1 G q _ (by omega),hold q hq]⟩
 have HZ:Sc (G=w.heap.size):=⟨hG⟩
 have CA:=Q0 hap
 have C1:=Q0 hcp1
 have C2:=Q0 hcp2
 have n1:((k:Int)==(l.length:Int))=false:=by simp;omega
 have n2:¬l.length=k:=by omega
 have n4:(l.length:Int)<(l.length:Int)+1:=by omega
 have n5:¬C=k:=by omega
 have n6:¬C=k+1:=by omega
 clear hcp1 hcp2 hap hW1 hW2 hW3 hg hb hg2 hG1 hG2 hs hs1 hp1 ht hown hcl hl1 hcl0 hold hG
 go_enter Tryz.func152,Tryz.ntmps152
 go_wp2_with (first|(at_builtin;refine Lib.wpList_append_run _ rfl (.tmp 34) (.tmp 39) 31 3 rfl (.slice (some ⟨g,0,none⟩) k l.length) (.int .i64 ((l.length:Int)+1 - k)) rfl rfl _ _ CA.o ?_)|(with_reducible refine G3 W1 rfl (.tmp 43) (.tmp 44) 31 31 rfl (.slice (some ⟨G,k*4,none⟩) (l.length+1 - k) (C - k)) (.slice (some ⟨b,0,none⟩) 1 1) rfl rfl (C1.o 3 _) ?_))
 have hw1:IntKind.i64.wrap ((k:Int)+1)=(k:Int)+1:=by rw[IntKind.wrap_i64];omega
 have hw2:(0:Int)<=(k:Int)+1:=by omega
 have hw3:((k:Int)+1).toNat=k+1:=by omega
 have hw4:(k:Int)<=(l.length:Int):=by omega
 have hw5:k<=l.length:=by omega
 go_region_law (go_loud (refine Ua rfl (.tmp 50) (.tmp 53) 31 31 rfl (.slice (some ⟨G,(k+1)*4,none⟩) (l.length - k) (C - (k+1))) (.slice (some ⟨g,k*4,none⟩) (l.length - k) (l.length - k)) (by simp[Act.eval,Act.put]) (by simp[Act.eval,Act.put]) (C2.o 3 _ _) ?_))
 clear hw1 hw2 hw3 hw4 hw5
 go_wp2
 go_ret
 exact⟨_,rfl,HG3.o,HF.o,.inr (by rw[<-HZ.o];rfl)⟩
theorem Q7e(w:World)(base:Nat)(v:Value)(l:List (Int×Int×Int×Int))(k:Nat)(x:Int×Int×Int×Int)(hown:Own Qg 4 58 base w v l)(hlen:l.length<=1000000)(hk:k<=l.length)
  (b:Nat) (hb:w.heap[b]? =some (.cells (Qg x).toArray 58 (0,0))) (hne:v.ownBlock≠some b) (hbase:base<=w.heap.size):
  Calls Tryz.prog 152 #[v,.int .i64 k,.slice (some ⟨b,0,none⟩) 1 1] w (D9 base v.ownBlock (l.take k++x::l.drop k) w):=by
 rcases Nat.lt_or_eq_of_le hk with h|rfl
 ·obtain⟨g,cap,rfl,_,_,hn,_⟩:=hown.form (by omega)
  by_cases hc:l.length+1<=cap
  ·exact Q2z w base g cap l k x hown hlen h hc b hb (fun h=>hne (by rw[h];rfl))
  ·obtain rfl:cap=l.length:=by omega
   exact Q5s w base g l k x hown hlen h b hb hbase
 ·have:=Q7f w base v l x hown hlen b hb hbase
  rwa [List.take_length,List.drop_length]
end
theorem Y2g:(Tryz.prog.info? 58).map (fun i=>(i.zero,i.size,i.bytes))=some (some (.agg #[.int .i64 0,.int .i64 0,.int .i64 0,.int .i64 0]),4,32):=by kernel_rfl
theorem X9k{cur:Array Value}{l:List (Int×Int×Int×Int)}{cap k m:Nat}(zs:List Value)(hs:cur.size=cap*4)(ht:cur.toList.take ((m+1)*4)=flat Qg l)(hl:l.length=m+1)(hk:k<=m)(hn:m+1<=cap)(hz:zs.length=4):
  (lay (lay cur.toList (k*4) (flat Qg (l.drop (k+1)))) (m*4) zs).take (m*4)=flat Qg (l.take k++l.drop (k+1)):=by
 have h1:(flat Qg (l.drop (k+1))).length=(m - k)*4:=by rw[X8.Qp,List.length_drop,hl];congr 1;omega
 have hcl:cur.toList.length=cap*4:=by rw[Array.length_toList,hs]
 have hl1:(lay cur.toList (k*4) (flat Qg (l.drop (k+1)))).length=cap*4:=by rw[Y8 (by omega),hcl]
 have h3:(flat Qg (l.take k)).length=k*4:=by rw[X8.Qp,List.length_take];congr 1;omega
 rw[Qc]
 apply List.ext_getElem?
 intro j
 rw[List.getElem?_take]
 by_cases hj:j<m*4
 ·rw[if_pos hj,Gi _ _ _ (by omega),if_pos (by omega),Gi _ _ _ (by omega)]
  by_cases c1:j<k*4
  ·rw[if_pos c1,List.getElem?_append_left (by omega),<-X8.Ub l k,List.getElem?_take,if_pos c1,<-ht,List.getElem?_take,if_pos (by omega)]
  ·rw[if_neg c1,if_pos (by omega),List.getElem?_append_right (by omega),h3]
 ·rw[if_neg hj,List.getElem?_eq_none (by simp only[List.length_append];omega)]
set_option maxRecDepth 4000 in
set_option maxHeartbeats 2000000 in
theorem Q7d(w:World)(base g cap m:Nat)(l:List (Int×Int×Int×Int))(k:Nat)(hown:Own Qg 4 58 base w (.slice (some ⟨g,0,none⟩) (m+1) cap) l)(hlen:m<=1000000)(hk:k<=m):
  Calls Tryz.prog 155 #[.slice (some ⟨g,0,none⟩) (m+1) cap,.int .i64 k,.int .i64 ((k:Int)+1)] w fun e w'=>
   e=.returned (.slice (some ⟨g,0,none⟩) m cap)/\Own Qg 4 58 base w' (.slice (some ⟨g,0,none⟩) m cap) (l.take k++l.drop (k+1))/\w.grownBy w' (some g):=by
 obtain⟨i0,hi,hz0,hz1,hz2⟩:=info_parts Y2g
 obtain⟨cur,hg,hbg,hl,hn,hcm,hs,ht⟩:=hown.block
 have hcl0:cur.toList.length=cap*4:=by rw[Array.length_toList,hs]
 have hcl:(flat Qg (l.drop (k+1))).length=(m - k)*4:=by rw[X8.Qp,List.length_drop,hl];congr 1;omega
 obtain⟨A,hA,hAc⟩:∃A,(if cap=k+1 then some (⟨g,0,none⟩:Addr) else some ⟨g,(k+1)*4,none⟩)=some A/\∀j u,(flat Qg (l.drop (k+1)))[j]? =some u->w.drew.cell? (A.add j)=some u:=by
  by_cases hc:cap=k+1
  ·refine⟨⟨g,0,none⟩,by rw[if_pos hc],fun j u hj=> ?_⟩
   rw[List.getElem?_eq_none (by rw[hcl,show m - k=0 by omega];omega)]at hj
   cases hj
  ·refine⟨⟨g,(k+1)*4,none⟩,by rw[if_neg hc],fun j u hj=> ?_⟩
   have ha:(⟨g,(k+1)*4,none⟩:Addr).add j=⟨g,(k+1)*4+j,none⟩:=by unfold Addr.add;split<;>simp_all
   rw[ha]
   have hd:=X8.Gc l (k+1)
   rw[<-hd,List.getElem?_drop,<-ht,List.getElem?_take]at hj
   split at hj
   ·simp only[World.cell?,World.drew,hg]
    simpa using hj
   ·cases hj
 have hap:∀ty,(Builtin.append_ #[31,31] ty #[.slice (some ⟨g,0,none⟩) k cap,.slice (some A) (m - k) (cap - (k+1))]).run Tryz.prog w.drew=.ok (.slice (some ⟨g,0,none⟩) m cap) (w.drew.setRow g (lay cur.toList (k*4) (flat Qg (l.drop (k+1)))).toArray):=fun ty=>by
  have h:=run_append_room (P:= Tryz.prog) w.drew 31 ty 58 i0 Tryz.underlying31 hi g k cap cur hg A (m - k) (cap - (k+1)) (flat Qg (l.drop (k+1))) (by rw[hcl,hz1]) hAc (X8.Xk _) (by omega) (by rw[hcl,hz1,hs];omega)
  rw[hz1,show k+(m - k)=m by omega]at h
  exact h
 obtain⟨W1,hW1⟩:∃W1,W1=w.drew.setRow g (lay cur.toList (k*4) (flat Qg (l.drop (k+1)))).toArray:=⟨_,rfl⟩
 rw[<-hW1]at hap
 have hg1:W1.heap[g]? =some (.cells (lay cur.toList (k*4) (flat Qg (l.drop (k+1)))).toArray 58 (0,0)):=by rw[hW1];exact setRow_heap w.drew g cur _ _ _ hg
 have hl1:(lay cur.toList (k*4) (flat Qg (l.drop (k+1)))).length=cap*4:=by rw[Y8 (by rw[hcl,hcl0];omega),hcl0]
 have hzl:(Builtin.zeroCells (.agg #[.int .i64 0,.int .i64 0,.int .i64 0,.int .i64 0]:Value).cells 1).toList.length=4:=by rw[Array.length_toList,size_zeroCells];rfl
 have hclr:∀ty c,(Builtin.clear_ #[31] ty #[.slice (some ⟨g,m*4,none⟩) 1 c]).run Tryz.prog W1=.ok (.tuple #[]) (W1.setRow g (lay (lay cur.toList (k*4) (flat Qg (l.drop (k+1)))) (m*4) (Builtin.zeroCells (.agg #[.int .i64 0,.int .i64 0,.int .i64 0,.int .i64 0]:Value).cells 1).toList).toArray):=fun ty c=>
  Q6n W1 _ ty 58 58 i0 (.agg #[.int .i64 0,.int .i64 0,.int .i64 0,.int .i64 0]) Tryz.underlying31 hi hz0 g (m*4) _ hg1 1 c (by omega) (Q7l (by decide) (by decide) 1) (by rw[hzl,List.size_toArray,hl1];omega)
 obtain⟨W2,hW2⟩:∃W2,W2=W1.setRow g (lay (lay cur.toList (k*4) (flat Qg (l.drop (k+1)))) (m*4) (Builtin.zeroCells (.agg #[.int .i64 0,.int .i64 0,.int .i64 0,.int .i64 0]:Value).cells 1).toList).toArray:=⟨_,rfl⟩
 rw[<-hW2]at hclr
 have HG2:Sc (Own Qg 4 58 base W2 (.slice (some ⟨g,0,none⟩) m cap) (l.take k++l.drop (k+1))):=⟨by
  refine Own.Jc (cur:=(lay (lay cur.toList (k*4) (flat Qg (l.drop (k+1)))) (m*4) (Builtin.zeroCells (.agg #[.int .i64 0,.int .i64 0,.int .i64 0,.int .i64 0]:Value).cells 1).toList).toArray) ?_ hbg X8 ?_ (by omega) hcm ?_ ?_
  ·rw[hW2];exact setRow_heap W1 g _ _ _ _ hg1
  ·simp only[List.length_append,List.length_take,List.length_drop];omega
  ·rw[List.size_toArray,Y8 (by rw[hzl,hl1];omega),hl1]
  ·exact X9k _ hs ht hl hk hn hzl⟩
 have HF:Sc (w.grownBy W2 (some g)):=⟨by
  rw[hW2,hW1]
  have hd:w.grownBy w.drew (some g):=⟨rfl,rfl,rfl,Nat.le_refl _,fun _ _ _=>rfl⟩
  exact(hd.trans (J1 w.drew g _)).trans (J1 _ g _)⟩
 have CA:=Q0 hap
 have CC:=Q0 hclr
 have n1:((k:Int)==(k:Int)+1)=false:=by simp;omega
 have n2:¬cap=m:=by omega
 have n3:(k:Int)+1<=(m:Int)+1:=by omega
 have n4:k<=cap:=by omega
 have n5:(k:Int)<=(cap:Int):=by omega
 have n6:((k:Int)+1).toNat=k+1:=by omega
 have n8:(0:Int)<=(k:Int)+1:=by omega
 have n7:(m:Int)+1<=(cap:Int):=by omega
 clear hap hclr hW1 hW2 hg hg1 hs ht hown hcl hcl0 hl1 hAc hzl hl
 go_enter Tryz.func155,Tryz.ntmps155
 go_wp2
 go_region_law (go_loud (refine Q5o rfl (.tmp 22) (.tmp 25) 31 31 rfl (.slice (some ⟨g,0,none⟩) k cap) (.slice (some A) (m - k) (cap - (k+1))) (by simp[Act.eval,Act.put]) (by simp[Act.eval,Act.put]) (CA.o 31) ?_))
 go_wp2_with (with_reducible refine Q3a W1 rfl (.tmp 31) 31 rfl (.slice (some ⟨g,m*4,none⟩) 1 (cap - m)) rfl (CC.o 0 _) ?_)
 go_outline
 go_ret
 exact⟨rfl,HG2.o,HF.o⟩
section
set_option maxHeartbeats 1000000
set_option maxRecDepth 4000
abbrev TX:=Int×Int×Int×Int
structure X7f where
 lp:Value
 u:Value
 ins:Bool
variable{R:X7f}
structure Oa(R:X7f)(w:World)(tb:Nat)(row:Option Nat)(l:List TX)(m:Int):Prop where
 val:∃v:Value,v.ownBlock=row/\w.heap[tb]? =some (.cells #[R.lp,v,.int .i64 m,R.u,.bool R.ins] 117 (0,0))/\Own Qg 4 58 0 w v l
 apart:row≠some tb
 rising:Qd l
theorem Jf{w:World}{b:Nat}{a v u x y:Value}{t:TypeId}(h:w.heap[b]? =some (.cells #[a,v,u,x,y] t (0,0))):w.cell? ⟨b,1,none⟩=some v/\w.cell? ⟨b,2,none⟩=some u:=by simp[World.cell?,h]
theorem Oa.kp{w w':World}{tb:Nat}{row:Option Nat}{l:List TX}{m:Int}{S:Nat->Prop}(h:Oa R w tb row l m)(k:Kp S w w')(h1:¬S tb)(h2:∀q,row=some q->¬S q):Oa R w' tb row l m:=by
 obtain⟨⟨v,hv,hc,hown⟩,hap,hr⟩:=h
 exact⟨⟨v,hv,k.at hc h1,hown.kp k (fun q hq=>h2 q (by rw[<-hv];exact hq))⟩,hap,hr⟩
theorem Oa.bel{w w':World}{tb:Nat}{row:Option Nat}{l:List TX}{m:Int}(h:Oa R w tb row l m)(hb:Below w.heap.size w w'):Oa R w' tb row l m:=h.kp (Kp.Qi hb (fun _=>False)) id (fun _ _=>id)
theorem Vq(w:World)(tb:Nat)(row:Option Nat)(l:List TX)(m:Int)(p:Int)(h:Oa R w tb row l m)(hlen:l.length<=1000000):
  Calls Tryz.prog 151 #[.pointer (some ⟨tb,1,none⟩),.int .i64 p] w fun e w'=>e=.returned (.tuple #[.int .i64 (pos l p),.bool (has l p)])/\Below w.heap.size w w':=by
 obtain⟨⟨v,hv,hb,hown⟩,hap,hr⟩:=h
 obtain⟨hc,_⟩:=Jf hb
 have HO:=Q0 hown
 have HR:=Q0 hr
 clear hown hr hb hv hap
 go_enter Tryz.func151,Tryz.ntmps151
 go_wp2_with (go_at_call 165;refine(Q7g _ 0 _ l _ HO.o HR.o hlen).mono ?_;rintro e w' ⟨rfl,hb⟩)
 go_ret2
 exact⟨rfl,hb⟩
def V0(R:X7f)(tb:Nat)(row:Option Nat)(l:List TX)(m:Int)(w w':World):Prop:=
 ∃row',Oa R w' tb row' l m/\Kp (fun q=>q=tb\/some q=row) w w'/\(row'=row\/∃q,row'=some q/\w.heap.size<=q)
theorem V0.same{tb:Nat}{row:Option Nat}{l:List TX}{m:Int}{w w':World}(h:Oa R w tb row l m)(hb:Below w.heap.size w w'):V0 R tb row l m w w':=⟨row,h.bel hb,Kp.Qi hb _,.inl rfl⟩
theorem V0.trans{tb:Nat}{row row':Option Nat}{l':List TX}{m':Int}{w w1 w2:World}(hk:Kp (fun q=>q=tb\/some q=row) w w1)(hat:row'=row\/∃q,row'=some q/\w.heap.size<=q)(h:V0 R tb row' l' m' w1 w2):V0 R tb row l' m' w w2:=by
 obtain⟨row2,ht2,hk2,hat2⟩:=h
 refine⟨row2,ht2,hk.trans hk2 (fun q hq=> ?_),?_⟩
 ·rcases hq with hq|hq
  ·exact .inl (.inl hq)
  ·rcases hat with hat|⟨q',hq',hle⟩
   ·exact .inl (.inr (by rw[<-hat];exact hq))
   ·rw[hq']at hq;injection hq with hq;exact .inr (by omega)
 ·rcases hat2 with h2|⟨q,h2,hle⟩
  ·rcases hat with hat|⟨q',hq',hle⟩
   ·exact .inl (h2.trans hat)
   ·exact .inr ⟨q',h2.trans hq',hle⟩
  ·exact .inr ⟨q,h2,Nat.le_trans hk.size hle⟩
theorem V0.stored{tb:Nat}{row:Option Nat}{l:List TX}{m:Int}{w w2:World}{v u:Value}(hc:w2.heap[tb]? =some (.cells #[R.lp,u,.int .i64 m,R.u,.bool R.ins] 117 (0,0)))(hown:Own Qg 4 58 0 w2 v l)(hr:Qd l)
  (hlt:tb<w.heap.size) (hap:row≠some tb) (hk:Kp (fun q=>q=tb\/some q=row) w w2) (hat:v.ownBlock=row\/∃q,v.ownBlock=some q/\w.heap.size<=q):V0 R tb row l m w (w2.setCell ⟨tb,1,none⟩ v):=by
 have hne:v.ownBlock≠some tb:=by
  rcases hat with h|⟨q,h,hq⟩
  ·rw[h];exact hap
  ·rw[h];intro he;injection he with he;omega
 refine⟨v.ownBlock,⟨⟨v,rfl,?_,hown.kp (Kp.setCell w2 _ v) (fun q hq he=>hne (by rw[hq,he]))⟩,hne,hr⟩,?_,hat⟩
 ·rw[Qn hc 1 v];rfl
 ·exact hk.trans (Kp.setCell w2 ⟨tb,1,none⟩ v) (fun q hq=> .inl (.inl hq))
theorem V0.U0{tb:Nat}{row:Option Nat}{l:List TX}{m m':Int}{w:World}(h:Oa R w tb row l m):V0 R tb row l m' w (w.setCell ⟨tb,2,none⟩ (.int .i64 m')):=by
 obtain⟨⟨v,hv,hc,hown⟩,hap,hr⟩:=h
 refine⟨row,⟨⟨v,hv,?_,hown.kp (Kp.setCell w _ _) (fun q hq he=>hap (by rw[<-hv,hq,he]))⟩,hap,hr⟩,(Kp.setCell w ⟨tb,2,none⟩ _).mono (fun q hq=> .inl hq),.inl rfl⟩
 rw[Qn hc 2 _];rfl
theorem D3(w:World)(tb:Nat)(row:Option Nat)(l:List TX)(m:Int)(p:Int)(h:Oa R w tb row l m):
  Calls Tryz.prog 123 #[.pointer (some ⟨tb,1,none⟩),.int .i64 p] w fun e w'=>e=.returned (.tuple #[])/\V0 R tb row l (max m p) w w':=by
 have HT:=Q0 h
 obtain⟨⟨v,hv,hc,hown⟩,hap,hr⟩:=h
 obtain⟨c0,c1⟩:=Jf hc
 have z1:=Q2 hc 2
 clear hown hr hc hv hap
 by_cases hmp:m<p
 ·have HM:Sc (max m p=p):=⟨by omega⟩
  go_enter Tryz.func123,Tryz.ntmps123
  go_wp2
  go_end0
  exact⟨rfl,by rw[HM.o];exact V0.U0 HT.o⟩
 ·have HM:Sc (max m p=m):=⟨by omega⟩
  go_enter Tryz.func123,Tryz.ntmps123
  go_wp2
  go_end0
  exact⟨rfl,by rw[HM.o];exact V0.U0 HT.o⟩
theorem X3t(w:World)(tb:Nat)(row:Option Nat)(l:List TX)(m:Int)(h:Oa R w tb row l m):
  Calls Tryz.prog 35 #[.pointer (some ⟨tb,1,none⟩)] w fun e w'=>e=.returned (.int .i64 m)/\w=w':=by
 obtain⟨⟨v,hv,hc,hown⟩,hap,hr⟩:=h
 obtain⟨c0,c1⟩:=Jf hc
 clear hown hr hc hv hap
 go_enter Tryz.func35,Tryz.ntmps35
 go_wp2
 go_ret
 exact⟨rfl,rfl⟩
theorem X6y(w:World)(tb:Nat)(row:Option Nat)(l:List TX)(m:Int)(h:Oa R w tb row l m)(hlen:l.length<=1000000):
  Calls Tryz.prog 33 #[.pointer (some ⟨tb,1,none⟩)] w (Q8u l w):=by
 obtain⟨⟨v,hv,hc,hown⟩,hap,hr⟩:=h
 obtain⟨c0,c1⟩:=Jf hc
 have HO:=Q0 hown
 clear hown hr hc hv hap
 go_enter Tryz.func33,Tryz.ntmps33
 go_wp2_with (go_at_call 77;refine(X0q _ 0 _ l HO.o hlen).mono ?_;rintro e w' ⟨v',rfl,ho,hb⟩)
 go_ret
 exact⟨_,rfl,ho,hb⟩
theorem X3s(w:World)(tb:Nat)(row:Option Nat)(l:List TX)(m:Int)(p:Int)(h:Oa R w tb row l m)(hlen:l.length<=1000000):
  Calls Tryz.prog 125 #[.pointer (some ⟨tb,1,none⟩),.int .i64 p] w fun e w'=>e=.returned (.bool (has l p))/\V0 R tb row (X4 l p) m w w':=by
 by_cases hh:has l p=true
 ·have HT:=Q0 h
  obtain⟨⟨v,hv,hc,hown⟩,hap,hr⟩:=h
  have hlt:=Ow hr hh
  obtain⟨n,hn⟩:∃n,l.length=n+1:=⟨l.length - 1,by omega⟩
  obtain⟨g,cap,rfl,_,_,_,_⟩:=hown.form (by omega)
  rw[hn]at hown hc
  have HO:=Q0 hown
  have HV:Sc (some g=row):=⟨by rw[<-hv];rfl⟩
  have HC:=Q0 hc
  have HR:=Q0 hr
  have HP:=Q0 hap
  have HH:=Q0 hh
  have HM:Sc (pos l p<=n/\n<=1000000):=⟨by omega,by omega⟩
  clear hown hv hc hr hap hn hlt
  go_enter Tryz.func125,Tryz.ntmps125
  go_wp2_with (first|(go_at_call 151;refine(Vq _ tb row l m _ HT.o hlen).mono ?_;rintro e w1 ⟨rfl,hb⟩;obtain⟨hc1,_⟩:=Jf ((hb.block tb (Q6 HC.o)).trans HC.o);have HB1:=Q0 hb;have hi:=HM.o;clear hb)|(go_at_call 155;go_loud (refine(Q7d _ 0 g cap n l (pos l p) (HO.o.below HB1.o) HM.o.2 HM.o.1).mono ?_)))
  rintro e w2 ⟨rfl,ho,hg⟩
  have hk2:Kp (fun q=>some q=row) w w2:=(Kp.Qi HB1.o _).trans (Kp.Zl hg) (fun q hq=> .inl (by rw[<-HV.o];exact hq))
  have hc2:=hk2.at HC.o (fun he=>HP.o he.symm)
  obtain⟨hcell2,_⟩:=Jf hc2
  have hfz2:=Q2 hc2 1
  have hfin:Sc (V0 R tb row (X4 l p) m w (w2.setCell ⟨tb,1,none⟩ (.slice (some ⟨g,0,none⟩) n cap))):=⟨by
   rw[drop'_yes HH.o]
   refine V0.stored hc2 ho (HR.o.take_drop _ _ (by omega)) (Q6 HC.o) HP.o (hk2.mono (fun q hq=> .inr hq)) (.inl HV.o)⟩
  clear hk2 hc2 hg ho
  go_wp2
  go_ret
  exact⟨by rw[HH.o];rfl,hfin.o⟩
 ·have hh:has l p=false:=by simpa using hh
  have HT:=Q0 h
  have HA:Sc (X4 l p=l):=⟨drop'_no hh⟩
  clear h
  go_enter Tryz.func125,Tryz.ntmps125
  go_wp2_with (go_at_call 151;refine(Vq _ tb row l m _ HT.o hlen).mono ?_;rintro e w' ⟨rfl,hb⟩)
  go_ret
  exact⟨by simp[hh],by rw[HA.o];exact V0.same HT.o hb⟩
end
section
variable{β:Type}
def Qt(l:List (Int×β))(x:Int×β):List (Int×β):=if has l x.1=true then l.set (pos l x.1) x else put l x
def upd(l:List (Int×β))(k:Int)(f:β->β):List (Int×β):=if has l k=true then l.modify (pos l k) (fun x=>(x.1,f x.2)) else l
theorem Ew{l m:List (Int×β)}(h:Qd l)(hk:m.map (·.1)=l.map (·.1)):Qd m:=by
 have h1:∀{q:List (Int×β)},Qd q↔(q.map (·.1)).Pairwise (·<·):=fun {q}=>by
  unfold Qd;rw[List.pairwise_map]
 rw[h1,hk,<-h1]
 exact h
theorem Er{l:List (Int×β)}{j:Nat}{x y:Int×β}(hy:l[j]? =some y)(hk:x.1=y.1):(l.set j x).map (·.1)=l.map (·.1):=by
 apply List.ext_getElem?
 intro i
 rw[List.getElem?_map,List.getElem?_map,List.getElem?_set]
 by_cases hij:j=i
 ·subst hij
  have hlt:=(List.getElem?_eq_some_iff.1 hy).1
  rw[if_pos rfl,if_pos hlt,hy]
  simp[hk]
 ·rw[if_neg hij]
theorem G1{l:List (Int×β)}(h:Qd l)(x:Int×β):Qd (Qt l x):=by
 unfold Qt
 split
 ·rename_i hh
  obtain⟨y,hy,hk⟩:=(Zq h x.1).1 hh
  exact Ew h (Er hy hk.symm)
 ·rename_i hh;exact Q4y h (by simpa using hh)
theorem Vm{l:List (Int×β)}{x:Int×β}(h:has l x.1=true):Qt l x=l.set (pos l x.1) x:=by unfold Qt;rw[if_pos h]
theorem Ex{l:List (Int×β)}{x:Int×β}(h:has l x.1=false):Qt l x=put l x:=by unfold Qt;rw[if_neg (by rw[h];exact Bool.false_ne_true)]
theorem G0(l:List (Int×β))(x:Int×β):(Qt l x).length<=l.length+1:=by
 unfold Qt;split
 ·rw[List.length_set];omega
 ·rw[Cb];omega
theorem E8{l:List (Int×β)}{k:Int}(f:β->β)(h:has l k=false):upd l k f=l:=by unfold upd;rw[if_neg (by rw[h];exact Bool.false_ne_true)]
theorem Za{l:List (Int×β)}{k:Int}(f:β->β){x:Int×β}(h:has l k=true)(hx:l[pos l k]? =some x):upd l k f=l.set (pos l k) (x.1,f x.2):=by
 unfold upd
 rw[if_pos h]
 apply List.ext_getElem?
 intro i
 rw[List.getElem?_modify,List.getElem?_set]
 by_cases hij:pos l k=i
 ·subst hij
  rw[hx,if_pos rfl,if_pos (List.getElem?_eq_some_iff.1 hx).1]
  simp
 ·rw[if_neg hij]
  simp[hij]
theorem Jv(l:List (Int×β))(k:Int)(f:β->β):(upd l k f).length=l.length:=by
 unfold upd;split
 ·rw[List.length_modify]
 ·rfl
theorem Jw{l:List (Int×β)}(h:Qd l)(k:Int)(f:β->β):Qd (upd l k f):=by
 by_cases hh:has l k=true
 ·obtain⟨x,hx,_⟩:=(Zq h k).1 hh
  rw[Za f hh hx]
  exact Ew h (Er hx rfl)
 ·rw[E8 f (by simpa using hh)];exact h
section
variable(k:Int)(x y:β)
end
end
section
set_option maxHeartbeats 4000000
set_option maxRecDepth 4000
variable{R:X7f}
abbrev Gn(x:TX):Value:=.agg #[.int .i64 x.1,.int .i64 x.2.1,.int .i64 x.2.2.1,.int .i64 x.2.2.2]
def got(l:List TX)(p:Int):TX:=if has l p=true then(l[pos l p]?).getD (0,0,0,0) else(0,0,0,0)
theorem X6z(w:World)(tb:Nat)(row:Option Nat)(l:List TX)(m:Int)(p:Int)(h:Oa R w tb row l m)(hlen:l.length<=1000000):
  Calls Tryz.prog 124 #[.pointer (some ⟨tb,1,none⟩),.int .i64 p] w fun e w'=>e=.returned (.tuple #[Gn (got l p),.bool (has l p)])/\Below w.heap.size w w':=by
 have HZ:Sc ((w.alloc (.cells #[.int .i64 0,.int .i64 0,.int .i64 0,.int .i64 0] 58)).heap[w.heap.size]? =some (.cells #[.int .i64 0,.int .i64 0,.int .i64 0,.int .i64 0] 58 (0,0))):=⟨heap_alloc_new _ _⟩
 have HT:Sc (Oa R (w.alloc (.cells #[.int .i64 0,.int .i64 0,.int .i64 0,.int .i64 0] 58)) tb row l m):=⟨h.bel ((Below.refl _ _).alloc (Nat.le_refl _) _)⟩
 by_cases hh:has l p=true
 ·obtain⟨⟨v,hv,hc,hown⟩,hap,hr⟩:=HT.o
  have hlt:=Ow hr hh
  obtain⟨g,cap,rfl,_,_,_,_⟩:=hown.form (by omega)
  obtain⟨x,hx,hxp⟩:=(Zq hr p).1 hh
  have HL:Sc (got l p=x):=⟨by unfold got;rw[if_pos hh,hx];rfl⟩
  have HO:=Q0 hown
  have HC:=Q0 hc
  have HX:=Q0 hx
  clear hown hv hc hr hap hx hxp
  go_enter Tryz.func124,Tryz.ntmps124
  go_wp2_with fail
  refine(Vq _ tb row l m _ HT.o hlen).mono ?_
  rintro e w1 ⟨rfl,hb⟩
  obtain⟨hc1,_⟩:=Jf ((hb.block tb (Q6 HC.o)).trans HC.o)
  obtain⟨d0,d1,d2,d3⟩:=(HO.o.below hb).V6 HX.o
  have hz:=(hb.block _ (Q6 HZ.o)).trans HZ.o
  have q0:w1.cell? ⟨w.heap.size,0,none⟩=some (.int .i64 0):=by simp[World.cell?,hz]
  have q1:w1.cell? ⟨w.heap.size,1,none⟩=some (.int .i64 0):=by simp[World.cell?,hz]
  have q2:w1.cell? ⟨w.heap.size,2,none⟩=some (.int .i64 0):=by simp[World.cell?,hz]
  have q3:w1.cell? ⟨w.heap.size,3,none⟩=some (.int .i64 0):=by simp[World.cell?,hz]
  have z0:=Q2 hz 0
  have z1:=Q2 hz 1
  have z2:=Q2 hz 2
  have z3:=Q2 hz 3
  have HB1:=Q0 hb
  clear hb hz
  go_wp2
  refine bodyPost_ret (v:=.tuple #[Gn x,.bool true]) (by simp[results,Tryz.results124,go_sem,q0,q1,q2,q3]) rfl ⟨by rw[HL.o];simp[hh],?_⟩
  have hB:Below w.heap.size w w1:=((Below.refl _ _).alloc (Nat.le_refl _) (.cells #[.int .i64 0,.int .i64 0,.int .i64 0,.int .i64 0] 58)).trans (HB1.o.mono (by simp))
  exact(((hB.setCell (by simp) _).setCell (by simp) _).setCell (by simp) _).setCell (by simp) _
 ·have hh:has l p=false:=by simpa using hh
  have HL:Sc (got l p=(0,0,0,0)):=⟨by unfold got;rw[if_neg (by rw[hh];exact Bool.false_ne_true)]⟩
  clear h
  go_enter Tryz.func124,Tryz.ntmps124
  go_wp2_with fail
  refine(Vq _ tb row l m _ HT.o hlen).mono ?_
  rintro e w1 ⟨rfl,hb⟩
  have hz:=(hb.block _ (Q6 HZ.o)).trans HZ.o
  have q0:w1.cell? ⟨w.heap.size,0,none⟩=some (.int .i64 0):=by simp[World.cell?,hz]
  have q1:w1.cell? ⟨w.heap.size,1,none⟩=some (.int .i64 0):=by simp[World.cell?,hz]
  have q2:w1.cell? ⟨w.heap.size,2,none⟩=some (.int .i64 0):=by simp[World.cell?,hz]
  have q3:w1.cell? ⟨w.heap.size,3,none⟩=some (.int .i64 0):=by simp[World.cell?,hz]
  have z0:=Q2 hz 0
  have z1:=Q2 hz 1
  have z2:=Q2 hz 2
  have z3:=Q2 hz 3
  have HB1:=Q0 hb
  clear hb hz
  go_wp2
  refine bodyPost_ret (v:=.tuple #[Gn (0,0,0,0),.bool false]) (by simp[results,Tryz.results124,go_sem,q0,q1,q2,q3]) rfl ⟨by rw[HL.o];simp[hh],?_⟩
  have hB:Below w.heap.size w w1:=((Below.refl _ _).alloc (Nat.le_refl _) (.cells #[.int .i64 0,.int .i64 0,.int .i64 0,.int .i64 0] 58)).trans (HB1.o.mono (by simp))
  exact(((hB.setCell (by simp) _).setCell (by simp) _).setCell (by simp) _).setCell (by simp) _
theorem X6x(w:World)(tb:Nat)(row:Option Nat)(l:List TX)(m:Int)(x:TX)(h:Oa R w tb row l m)(hlen:l.length<=1000000):
  Calls Tryz.prog 121 #[.pointer (some ⟨tb,1,none⟩),Gn x] w fun e w'=>e=.returned (.tuple #[])/\V0 R tb row (Qt l x) (max m x.1) w w':=by
 have HT:Sc (Oa R (w.alloc (.cells (Qg x).toArray 58)) tb row l m):=⟨h.bel ((Below.refl _ _).alloc (Nat.le_refl _) _)⟩
 have HX0:Sc ((w.alloc (.cells (Qg x).toArray 58)).heap[w.heap.size]? =some (.cells (Qg x).toArray 58 (0,0))):=⟨heap_alloc_new _ _⟩
 have HB0:Sc (Kp (fun q=>q=tb\/some q=row) w (w.alloc (.cells (Qg x).toArray 58))):=⟨Kp.alloc _ _ _⟩
 by_cases hh:has l x.1=true
 ·obtain⟨⟨v,hv,hc,hown⟩,hap,hr⟩:=HT.o
  have hlt:=Ow hr hh
  obtain⟨g,cap,rfl,_,_,_,_⟩:=hown.form (by omega)
  have hv:some g=row:=hv
  subst hv
  obtain⟨y,hy,hyp⟩:=(Zq hr x.1).1 hh
  have HU:Sc (Qt l x=l.set (pos l x.1) x):=⟨Vm hh⟩
  have HR:Sc (Qd (Qt l x)):=⟨G1 hr x⟩
  have HO:=Q0 hown
  have HC:=Q0 hc
  have HY:=Q0 hy
  have HP:=Q0 hap
  have HG:Sc (g<w.heap.size):=⟨by obtain⟨⟨v0,hv0,_,ho0⟩,_,_⟩:=h;exact(ho0.lt g hv0).2⟩
  have hltI:(pos l x.1:Int)<l.length:=by omega
  clear hown hc hr hap hy hyp h
  go_enter Tryz.func121,Tryz.ntmps121
  go_wp2_with fail
  refine(Vq _ tb _ l m _ HT.o hlen).mono ?_
  rintro e w1 ⟨rfl,hb⟩
  obtain⟨hc1,_⟩:=Jf ((hb.block tb (Q6 HC.o)).trans HC.o)
  obtain⟨d0,d1,d2,d3⟩:=(HO.o.below hb).V6 HY.o
  have z0:=(HO.o.below hb).Qr (pos l x.1*4)
  have z1:=(HO.o.below hb).Qr (pos l x.1*4+1)
  have z2:=(HO.o.below hb).Qr (pos l x.1*4+2)
  have z3:=(HO.o.below hb).Qr (pos l x.1*4+3)
  have hz:=(hb.block _ (Q6 HX0.o)).trans HX0.o
  have q0:w1.cell? ⟨w.heap.size,0,none⟩=some (.int .i64 x.1):=by simp[World.cell?,hz]
  have q1:w1.cell? ⟨w.heap.size,1,none⟩=some (.int .i64 x.2.1):=by simp[World.cell?,hz]
  have q2:w1.cell? ⟨w.heap.size,2,none⟩=some (.int .i64 x.2.2.1):=by simp[World.cell?,hz]
  have q3:w1.cell? ⟨w.heap.size,3,none⟩=some (.int .i64 x.2.2.2):=by simp[World.cell?,hz]
  have HB1:=Q0 hb
  clear hb hz
  go_wp2_with fail
  have hgne:¬w.heap.size=g:=by have:=HG.o;omega
  go_region
  go_wp2_with fail
  have hk:=(((((Kp.Qi HB1.o (fun q=>q=g)).trans (Kp.setCell w1 ⟨g,pos l x.1*4,none⟩ (.int .i64 x.1)) (fun q hq=> .inl hq)).trans (Kp.setCell _ ⟨g,pos l x.1*4+1,none⟩ (.int .i64 x.2.1)) (fun q hq=> .inl hq)).trans (Kp.setCell _ ⟨g,pos l x.1*4+2,none⟩ (.int .i64 x.2.2.1)) (fun q hq=> .inl hq)).trans (Kp.setCell _ ⟨g,pos l x.1*4+3,none⟩ (.int .i64 x.2.2.2)) (fun q hq=> .inl hq)).drew
  have hown:=HO.o.below HB1.o
  have hi:=(List.getElem?_eq_some_iff.1 HY.o).1
  have h0:=Own.set X8 hown (k:=pos l x.1) (j:=0) (x:=y) (x':=(x.1,y.2.1,y.2.2.1,y.2.2.2)) (u:=.int .i64 x.1) HY.o (by omega) rfl
  have h1:=Own.set X8 h0 (k:=pos l x.1) (j:=1) (x:=(x.1,y.2.1,y.2.2.1,y.2.2.2)) (x':=(x.1,x.2.1,y.2.2.1,y.2.2.2)) (u:=.int .i64 x.2.1) (by rw[List.getElem?_set_self hi]) (by omega) rfl
  rw[List.set_set]at h1
  have h2:=Own.set X8 h1 (k:=pos l x.1) (j:=2) (x:=(x.1,x.2.1,y.2.2.1,y.2.2.2)) (x':=(x.1,x.2.1,x.2.2.1,y.2.2.2)) (u:=.int .i64 x.2.2.1) (by rw[List.getElem?_set_self hi]) (by omega) rfl
  rw[List.set_set]at h2
  have h3:=Own.set X8 h2 (k:=pos l x.1) (j:=3) (x:=(x.1,x.2.1,x.2.2.1,y.2.2.2)) (x':=x) (u:=.int .i64 x.2.2.2) (by rw[List.getElem?_set_self hi]) (by omega) rfl
  rw[List.set_set,<-HU.o]at h3
  have ht3:=Oa.mk (R:=R) (tb:=tb) (row:=some g) (m:=m) ⟨_,rfl,(hk.block tb (Q6 HC.o) (fun he=>HP.o (by rw[he]))).trans HC.o,h3.drew⟩ HP.o HR.o
  have HT3:=Q0 ht3
  have HK3:=Q0 (HB0.o.trans hk (fun q hq=> .inl (.inr (by rw[hq]))))
  clear hk hown hi h0 h1 h2 h3 ht3
  refine(D3 _ tb (some g) (Qt l x) m x.1 HT3.o).mono ?_
  rintro e w4 ⟨rfl,hl⟩
  have HL:=Q0 hl
  clear hl
  go_wp2
  go_end0
  exact⟨rfl,V0.trans HK3.o (.inl rfl) HL.o⟩
 ·have hh:has l x.1=false:=by simpa using hh
  obtain⟨⟨v,hv,hc,hown⟩,hap,hr⟩:=h
  have HU:Sc (Qt l x=l.take (pos l x.1)++x::l.drop (pos l x.1)):=⟨Ex hh⟩
  have HR:Sc (Qd (Qt l x)):=⟨G1 hr x⟩
  obtain⟨A,n,cap,rfl⟩:=hown.slice3
  have HO:=Q0 (hown.alloc (.cells (Qg x).toArray 58))
  have HC:Sc ((w.alloc (.cells (Qg x).toArray 58)).heap[tb]? =some (.cells #[R.lp,.slice A n cap,.int .i64 m,R.u,.bool R.ins] 117 (0,0))):=⟨(heap_alloc_old w _ (Q6 hc)).trans hc⟩
  have HCW:=Q0 hc
  have HP:=Q0 hap
  have HV:=Q0 hv
  have HLT:Sc (tb<w.heap.size/\∀q,row=some q->q<w.heap.size):=⟨Q6 hc,fun q hq=>(hown.lt q (by rw[hv];exact hq)).2⟩
  clear hown hc hr hap hv
  go_enter Tryz.func121,Tryz.ntmps121
  go_wp2_with fail
  refine(Vq _ tb _ l m _ HT.o hlen).mono ?_
  rintro e w1 ⟨rfl,hb⟩
  obtain⟨hc1,_⟩:=Jf ((hb.block tb (Q6 HC.o)).trans HC.o)
  have hz:=(hb.block _ (Q6 HX0.o)).trans HX0.o
  have q0:w1.cell? ⟨w.heap.size,0,none⟩=some (.int .i64 x.1):=by simp[World.cell?,hz]
  have q1:w1.cell? ⟨w.heap.size,1,none⟩=some (.int .i64 x.2.1):=by simp[World.cell?,hz]
  have q2:w1.cell? ⟨w.heap.size,2,none⟩=some (.int .i64 x.2.2.1):=by simp[World.cell?,hz]
  have q3:w1.cell? ⟨w.heap.size,3,none⟩=some (.int .i64 x.2.2.2):=by simp[World.cell?,hz]
  have HB1:=Q0 hb
  have HZ1:=Q0 hz
  clear hb hz
  have HOI:Sc (Own Qg 4 58 0 (w1.alloc (.cells (Qg x).toArray 58)).drew (.slice A n cap) l):=⟨((HO.o.below HB1.o).alloc _).drew⟩
  have HBI:Sc ((w1.alloc (.cells (Qg x).toArray 58)).drew.heap[w1.heap.size]? =some (.cells (Qg x).toArray 58 (0,0))):=⟨heap_alloc_new w1 _⟩
  have HNE:Sc ((Value.slice A n cap).ownBlock≠some w1.heap.size):=⟨fun he=>by have h1:=(HO.o.lt _ he).2;have h2:=HB1.o.size;omega⟩
  have HK1:Sc (Kp (fun q=>some q=row) w (w1.alloc (.cells (Qg x).toArray 58)).drew):=⟨(((Kp.alloc w _ (fun q=>some q=row)).trans (Kp.Qi HB1.o (fun q=>some q=row)) (fun q hq=> .inl hq)).trans (Kp.alloc w1 _ (fun q=>some q=row)) (fun q hq=> .inl hq)).drew⟩
  have HKX:Sc (∀w2:World,(w1.alloc (.cells (Qg x).toArray 58)).drew.grownBy w2 (Value.slice A n cap).ownBlock->Kp (fun q=>some q=row) w w2):=⟨fun w2 hg=>HK1.o.trans (Kp.Zl hg) (fun q hq=> .inl (by rw[<-HV.o];exact hq))⟩
  have HX2:Sc (∀w2:World,(w1.alloc (.cells (Qg x).toArray 58)).drew.grownBy w2 (Value.slice A n cap).ownBlock->w2.cell? ⟨w.heap.size,0,none⟩=some (.int .i64 x.1)):=⟨fun w2 hg=>by
   have h1:w.heap.size<w1.heap.size:=Q6 HZ1.o
   have h2:=hg.block w.heap.size (by show _<(w1.alloc _).heap.size;simp;omega) (fun he=>by have:=HLT.o.2 _ (HV.o.symm.trans he.symm);omega)
   have h3:(w1.alloc (.cells (Qg x).toArray 58)).drew.heap[w.heap.size]? =w1.heap[w.heap.size]? :=heap_alloc_old w1 _ h1
   simp[World.cell?,h2,h3,HZ1.o]⟩
  have htl:tb<w1.heap.size:=by have h1:=HLT.o.1;have h2:=Q6 HZ1.o;omega
  have hwl:w.heap.size<w1.heap.size:=Q6 HZ1.o
  have HTNE:Sc (¬w.heap.size=tb):=⟨by have:=HLT.o.1;omega⟩
  go_wp2_with fail
  go_region_with (go_at_call 152;go_loud (refine(Q7e _ 0 _ l (pos l x.1) x HOI.o hlen (Q4x l x.1) _ HBI.o HNE.o (Nat.zero_le _)).mono ?_;rintro e w2 ⟨v',rfl,ho,hg,hat⟩;obtain⟨A',n',c',rfl⟩:=ho.slice3;have hc2:=(HKX.o w2 hg).at HCW.o (fun he=>HP.o he.symm);obtain⟨hcell2,hcell3⟩:=Jf hc2;have hfz2:=Q2 hc2 1;have hx2:=HX2.o w2 hg;have htne:=HTNE.o;have HG2:=Q0 hg;have HO2:=Q0 ho;have HAT:=Q0 hat;have HC2:=Q0 hc2;clear hg ho hat hc2))
  all_goals
   have HL2:Sc (V0 R tb row (Qt l x) m w (w2.setCell ⟨tb,1,none⟩ (.slice A' n' c'))):=⟨by
    rw[HU.o]
    refine V0.stored HC2.o HO2.o (by rw[<-HU.o];exact HR.o) HLT.o.1 HP.o ((HKX.o w2 HG2.o).mono (fun q hq=> .inr hq)) ?_
    rcases HAT.o with h1|h1
    ·exact .inl (h1.trans HV.o)
    ·exact .inr ⟨_,h1,by show w.heap.size<=(w1.alloc _).heap.size;simp;have:=Q6 HZ1.o;omega⟩⟩
   go_wp2_with fail
   refine(D3 _ tb HL2.o.choose (Qt l x) m x.1 HL2.o.choose_spec.1).mono ?_
   rintro e w4 ⟨rfl,hl⟩
   have HL4:=Q0 hl
   clear hl
   go_wp2
   go_end0
   exact⟨rfl,V0.trans HL2.o.choose_spec.2.1 HL2.o.choose_spec.2.2 HL4.o⟩
end
end Go.Proofs.YtoapihepdallbaaGreatDoor
