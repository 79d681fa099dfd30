import Derived.Test.YtoapihepdallbaaGreatDoorP46
namespace Go.Proofs.YtoapihepdallbaaGreatDoor
open Go.RowKit
def Jd(o:List Int)(r:Q9):List Int:=if r.kind=1 then o++[r.txn] else if r.kind=6 then o.filter (fun z=>decide (z≠r.txn)) else o
def Jt(m:Int)(r:Q9):Int:=if r.kind=1 then max m r.txn else m
def Jh(lsn:Int)(f:Int->Int)(r:Q9):Int->Int:=if(r.kind=2\/r.kind=3)/\f r.page=0 then(fun q=>if q=r.page then lsn else f q) else f
def Zz(L:List Q9):List Int:=L.foldl Jd []
def Jk(L:List Q9):Int:=L.foldl Jt 0
def C9:Int->List Q9->(Int->Int)->Int->Int
 |_,[],f=>f
 |lsn,r::rs,f=>C9 (lsn+1) rs (Jh lsn f r)
def Xa(L:List Q9):Int->Int:=C9 1 L (fun _=>0)
theorem Q1z(r:Q9):∀(L:List Q9) (lsn:Int) (f:Int->Int),C9 lsn (L++[r]) f=Jh (lsn+L.length) (C9 lsn L f) r
 |[],lsn,f=>by simp[C9]
 |q::L,lsn,f=>by
  rw[List.cons_append,C9,C9,Q1z r L (lsn+1) _,List.length_cons]
  congr 1
  omega
theorem J8(L:List Q9)(r:Q9):Xa (L++[r])=Jh ((L.length:Int)+1) (Xa L) r:=by
 unfold Xa
 rw[Q1z,Int.add_comm]
theorem Yz(L:List Q9)(r:Q9):Zz (L++[r])=Jd (Zz L) r:=by unfold Zz;rw[List.foldl_append];rfl
theorem Zj(L:List Q9)(r:Q9):Jk (L++[r])=Jt (Jk L) r:=by unfold Jk;rw[List.foldl_append];rfl
theorem Q5j{b:Int}(r:Q9):∀(L:List Q9) (lsn:Int) (s s':An),Xz b lsn (L++[r]) s=(none,s')->∃s1,Xz b lsn L s=(none,s1)/\Xc b (lsn+L.length) r s1=(true,s')
 |[],lsn,s,s',h=>by
  rw[List.nil_append,Xz]at h
  split at h
  ·rename_i ht
   rw[Xz]at h
   injection h with _ h
   refine⟨s,by rw[Xz],?_⟩
   rw[show lsn+(([]:List Q9).length:Int)=lsn from by simp]
   exact Prod.ext ht h
  ·injection h with h _
   cases h
 |q::L,lsn,s,s',h=>by
  rw[List.cons_append,Xz]at h
  split at h
  ·rename_i ht
   obtain⟨s1,h1,h2⟩:=Q5j r L (lsn+1) _ s' h
   refine⟨s1,by rw[Xz,if_pos ht];exact h1,?_⟩
   rw[List.length_cons,show lsn+((L.length+1:Nat):Int)=lsn+1+(L.length:Int) from by omega]
   exact h2
  ·injection h with h _
   cases h
theorem Q5i{b:Int}:∀(L:List Q9) (lsn:Int) (s s':An),Xz b lsn L s=(none,s')->s.ins=false->s'.ins=false
 |[],lsn,s,s',h,hi=>by
  rw[Xz]at h
  injection h with _ h
  rw[<-h];exact hi
 |q::L,lsn,s,s',h,hi=>by
  rw[Xz]at h
  split at h
  ·refine Q5i L (lsn+1) _ s' h ?_
   unfold Xc
   rw[if_neg (by rw[hi];simp)]
   split
   ·exact hi
   ·unfold Yu
    split
    ·exact hi
    ·split
     ·exact hi
     ·split<;>exact hi
  ·injection h with h _
   cases h
theorem X8h{l:List TX}(hr:Qd l)(k:Int):(X4 l k).map (·.1)=(l.map (·.1)).filter (fun z=>decide (z≠k)):=by
 have h1:X4 l k=l.filter (fun x=>decide (x.1≠k)):=Q5g (drop'_rising hr k) (List.Pairwise.filter _ hr) fun y=>by
  rw[Zi hr,List.mem_filter]
  simp
 rw[h1,List.filter_map]
 rfl
theorem Y4d{d:List (Int×Int)}{x y:Int×Int}(hr:Qd d):y∈add d x↔y∈d\/(y=x/\has d x.1=false):=by
 cases hh:has d x.1 with
 |true=>rw[Q7n hh];simp
 |false=>
  have hn:∀z∈d,z.1≠x.1:=fun z hz he=>by rw[Qy.2 ⟨z,hz,he⟩]at hh;cases hh
  have e:add d x=Qt d x:=by unfold add Qt;rw[if_neg (by rw[hh];simp),if_neg (by rw[hh];simp)]
  rw[e,Vb hr]
  constructor
  ·rintro(h|⟨h,_⟩)
   ·exact .inr ⟨h,rfl⟩
   ·exact .inl h
  ·rintro(h|⟨h,_⟩)
   ·exact .inr ⟨h,hn y h⟩
   ·exact .inl h
structure Om(L:List Q9)(t:List TX)(m:Int)(d:List (Int×Int)):Prop where
 Je:Qd t
 ids:∀x∈t,x.1<=m
 pos:0<=m
 open_:t.map (·.1)=Zz L
 most:m=Jk L
 Q4f:Qd d
 Zt:∀y,y∈d↔Xa L y.1=y.2/\y.2≠0
theorem U0:∀(n:Nat) (L:List Q9),L.length=n->Q3p L->(∀r∈L,Qq r=true)->∀t m d,Xz 0 1 L (An.zero false)=(none,⟨t,m,d,false⟩)->Om L t m d
 |0,L,hn,_,_,t,m,d,h=>by
  obtain rfl:=List.eq_nil_of_length_eq_zero hn
  rw[Xz]at h
  injection h with _ h
  injection h with h1 h2 h3 _
  subst h1 h2 h3
  exact⟨List.Pairwise.nil,fun x hx=>(by cases hx),Int.le_refl _,rfl,rfl,List.Pairwise.nil,fun y=>⟨fun h=>(by cases h),fun⟨h1,h2⟩=>absurd h1.symm h2⟩⟩
 |n+1,L,hn,hb,hg,t,m,d,h=>by
  obtain⟨K,r,rfl⟩:∃K r,L=K++[r]:=by
   rcases List.eq_nil_or_concat L with h0|⟨K,r,h0⟩
   ·rw[h0]at hn;cases hn
   ·exact⟨K,r,by rw[h0];simp⟩
  obtain⟨s1,h1,h2⟩:=Q5j r K 1 _ _ h
  have hKb:Q3p K:=fun i q hi hk t m ht=>hb i q (by rw[List.getElem?_append_left (List.getElem?_eq_some_iff.1 hi).1];exact hi) hk t m (by rw[List.take_append_of_le_length (Nat.le_of_lt (List.getElem?_eq_some_iff.1 hi).1)];exact ht)
  have hlen:K.length=n:=by rw[List.length_append,List.length_singleton]at hn;omega
  obtain⟨t1,m1,d1,i1⟩:=s1
  have hi1:i1=false:=Q5i K 1 _ _ h1 rfl
  subst hi1
  have hK:=U0 n K hlen hKb (fun q hq=>hg q (List.mem_append_left _ hq)) t1 m1 d1 h1
  have hlast:(K++[r])[K.length]? =some r:=by rw[List.getElem?_append_right (Nat.le_refl _)];simp
  have hdz:∀pg,has d1 pg=false↔Xa K pg=0:=fun pg=>by
   constructor
   ·intro hh
    by_cases hz:Xa K pg=0
    ·exact hz
    ·have:=Qy.2 ⟨(pg,Xa K pg),(hK.Zt _).2 ⟨rfl,hz⟩,rfl⟩
     rw[hh]at this
     cases this
   ·intro hz
    cases hh:has d1 pg with
    |false=>rfl
    |true=>
     obtain⟨y,hy,he⟩:=Qy.1 hh
     have:=(hK.Zt y).1 hy
     rw[he,hz]at this
     exact absurd this.1.symm this.2
  have hkeep:¬(r.kind=2\/r.kind=3)->Xa (K++[r])=Xa K:=fun hk=>by rw[J8];unfold Jh;rw[if_neg (fun hh=>hk hh.1)]
  unfold Xc at h2
  rw[if_neg (by simp)]at h2
  by_cases h7:7<=r.kind
  ·rw[if_pos h7]at h2
   injection h2 with _ h2
   injection h2 with e1 e2 e3 _
   subst e1 e2 e3
   exact⟨hK.Je,hK.ids,hK.pos,by rw[Yz];unfold Jd;rw[if_neg (by omega),if_neg (by omega)];exact hK.open_,by rw[Zj];unfold Jt;rw[if_neg (by omega)];exact hK.most,hK.Q4f,fun y=>by rw[hkeep (by omega)];exact hK.Zt y⟩
  ·rw[if_neg h7]at h2
   unfold Yu at h2
   by_cases hk1:r.kind=1
   ·rw[if_pos hk1]at h2
    have hbt:=hb K.length r hlast hk1 t1 m1 (by rw[List.take_left' rfl];exact⟨d1,h1⟩)
    injection h2 with _ h2
    injection h2 with e1 e2 e3 _
    have hend:∀y∈t1,y.1<r.txn:=fun y hy=>by have:=hK.ids y hy;omega
    have hs:Qt t1 (r.txn,0,1+(K.length:Int),0)=t1++[(r.txn,0,1+(K.length:Int),0)]:=Oj (x:=(r.txn,0,1+(K.length:Int),0)) hend
    rw[hs]at e1
    have hm:max m1 r.txn=r.txn:=by omega
    have e2':m=r.txn:=by rw[<-e2];exact hm
    subst e1 e3
    rw[e2']
    refine⟨Cf hK.Je hend,fun x hx=> ?_,by have:=hK.pos;omega,?_,?_,hK.Q4f,fun y=>by rw[hkeep (by omega)];exact hK.Zt y⟩
    ·rcases List.mem_append.1 hx with hx|hx
     ·exact Int.le_of_lt (hend x hx)
     ·rw[List.mem_singleton.1 hx];exact Int.le_refl _
    ·rw[Yz];unfold Jd;rw[if_pos hk1,List.map_append,hK.open_];rfl
    ·rw[Zj];unfold Jt;rw[if_pos hk1,<-hK.most];exact hm.symm
   ·rw[if_neg hk1]at h2
    split at h2
    ·injection h2 with h2 _
     cases h2
    ·rename_i hno
     have hh:has t1 r.txn=true:=by
      cases hc:has t1 r.txn with
      |true=>rfl
      |false=>exact absurd (.inl hc) hno
     obtain⟨x,hx,hxi⟩:=Qy.1 hh
     obtain⟨_,hp,hgx⟩:=Z3 hK.Je hx
     rw[hxi]at hp hgx
     by_cases hk6:r.kind=6
     ·rw[if_pos hk6]at h2
      injection h2 with _ h2
      injection h2 with e1 e2 e3 _
      subst e1 e2 e3
      exact⟨drop'_rising hK.Je _,fun y hy=>hK.ids y ((Zi hK.Je).1 hy).1,hK.pos,by rw[Yz];unfold Jd;rw[if_neg hk1,if_pos hk6,<-hK.open_];exact X8h hK.Je _,by rw[Zj];unfold Jt;rw[if_neg hk1];exact hK.most,hK.Q4f,fun y=>by rw[hkeep (by omega)];exact hK.Zt y⟩
     ·rw[if_neg hk6]at h2
      injection h2 with _ h2
      injection h2 with e1 e2 e3 _
      have e1':t=Qt t1 (Yt (1+(K.length:Int)) r x):=by rw[<-e1];show Qt t1 (Yt (1+(K.length:Int)) r (got t1 r.txn))=_;rw[hgx]
      have e2':m=m1:=by rw[<-e2];show max m1 (got t1 r.txn).1=m1;rw[hgx];have:=hK.ids x hx;omega
      have hset:Qt t1 (Yt (1+(K.length:Int)) r x)=t1.set (pos t1 r.txn) (Yt (1+(K.length:Int)) r x):=by
       have:=Vm (l:=t1) (x:=Yt (1+(K.length:Int)) r x) (by show has t1 x.1=true;rw[hxi];exact hh)
       rw[this]
       show t1.set (pos t1 x.1) _=_
       rw[hxi]
      have hkeys:t.map (·.1)=t1.map (·.1):=by rw[e1',hset];exact Er hp rfl
      have hids:∀y∈t,y.1<=m1:=fun y hy=>by
       have:y.1∈t.map (·.1):=List.mem_map.2 ⟨y,hy,rfl⟩
       rw[hkeys]at this
       obtain⟨z,hz,he⟩:=List.mem_map.1 this
       rw[<-he];exact hK.ids z hz
      rw[e2']
      have hopen:t.map (·.1)=Zz (K++[r]):=by rw[hkeys,Yz];unfold Jd;rw[if_neg hk1,if_neg hk6];exact hK.open_
      have hmost:m1=Jk (K++[r]):=by rw[Zj];unfold Jt;rw[if_neg hk1];exact hK.most
      have hrt:Qd t:=by rw[e1'];exact G1 hK.Je _
      by_cases h23:r.kind=2\/r.kind=3
      ·rw[if_pos h23]at e3
       have e3':d=add d1 (r.page,1+(K.length:Int)):=e3.symm
       rw[e3']
       refine⟨hrt,hids,hK.pos,hopen,hmost,C3 hK.Q4f _,fun y=> ?_⟩
       rw[Y4d hK.Q4f,J8]
       unfold Jh
       by_cases hz:Xa K r.page=0
       ·rw[if_pos ⟨h23,hz⟩]
        constructor
        ·rintro(hy|⟨rfl,_⟩)
         ·have:=(hK.Zt y).1 hy
          refine⟨?_,this.2⟩
          show(if y.1=r.page then _ else _)=_
          rw[if_neg (fun he=>by rw[he,hz]at this;exact this.2 this.1.symm)]
          exact this.1
         ·refine⟨?_,by show 1+(K.length:Int)≠0;omega⟩
          show(if r.page=r.page then _ else _)=1+(K.length:Int)
          rw[if_pos rfl];omega
        ·rintro⟨g1,g2⟩
         have g1':(if y.1=r.page then(K.length:Int)+1 else Xa K y.1)=y.2:=g1
         by_cases he:y.1=r.page
         ·rw[if_pos he]at g1'
          exact .inr ⟨Prod.ext he (by show y.2=1+(K.length:Int);omega),(hdz r.page).2 hz⟩
         ·rw[if_neg he]at g1'
          exact .inl ((hK.Zt y).2 ⟨g1',g2⟩)
       ·rw[if_neg (fun hh=>hz hh.2)]
        constructor
        ·rintro(hy|⟨_,hf⟩)
         ·exact(hK.Zt y).1 hy
         ·exact absurd ((hdz r.page).1 hf) hz
        ·exact fun hy=> .inl ((hK.Zt y).2 hy)
      ·rw[if_neg h23]at e3
       have e3':d=d1:=e3.symm
       rw[e3']
       exact⟨hrt,hids,hK.pos,hopen,hmost,hK.Q4f,fun y=>by rw[hkeep h23];exact hK.Zt y⟩
theorem Q8j{b:Int}(M:List Q9):∀(L:List Q9) (lsn:Int) (s s':An),Xz b lsn (L++M) s=(none,s')->∃s1,Xz b lsn L s=(none,s1)
 |[],lsn,s,_,_=>⟨s,by rw[Xz]⟩
 |q::L,lsn,s,s',h=>by
  rw[List.cons_append,Xz]at h
  split at h
  ·rename_i ht
   obtain⟨s1,h1⟩:=Q8j M L (lsn+1) _ s' h
   exact⟨s1,by rw[Xz,if_pos ht];exact h1⟩
  ·injection h with h _
   cases h
theorem Da.cut{p:Nat}{L:List Q9}{ck:Int}(h:Da p L ck)(c:Nat):∃t m d,Zc (L.take c) 0 p 0=(none,⟨t,m,d,false⟩)/\Om (L.take c) t m d:=by
 obtain⟨A,hf,rfl,_⟩:=h.Yc
 obtain⟨t,m,⟨d,hr⟩,_⟩:=hf.fin
 rw[<-List.take_append_drop c A.L]at hr
 obtain⟨⟨t1,m1,d1,i1⟩,h1⟩:=Q8j (A.L.drop c) (A.L.take c) 1 _ _ hr
 have hi:i1=false:=Q5i _ _ _ _ h1 rfl
 subst hi
 have hb:Q3p (A.L.take c):=fun i r hi hk t m ht=>by
  have hlt:=(List.getElem?_eq_some_iff.1 hi).1
  rw[List.length_take]at hlt
  rw[List.getElem?_take_of_lt (by omega)]at hi
  refine hf.Q3x i r hi hk t m ?_
  rw[List.take_take,Nat.min_eq_left (by omega)]at ht
  exact ht
 refine⟨t1,m1,d1,?_,U0 _ _ rfl hb (fun r hr=>h.Jo r (List.mem_of_mem_take hr)) t1 m1 d1 h1⟩
 unfold Zc
 rw[Oq (A.L.take c) (0+1) (fun r hr=>hf.X7s r (List.mem_of_mem_take hr))]
 show(if(0:Int)=0 then Y7 (0+((A.L.take c).length:Int)) (Xz 0 (0+1) (A.L.take c) (An.zero false)) else _)=_
 rw[if_pos rfl,show(0:Int)+1=1 from rfl,h1]
 rfl
abbrev Uq(K:List Q9):List Int:=(List.range 33).map (fun(q:Nat)=>Xa K (q:Int))
theorem Y3a:Uq []=List.replicate 33 (0:Int):=by decide
theorem Dh(K:List Q9){q:Nat}(hq:q<33):(Uq K)[q]? =some (Xa K (q:Int)):=by
 rw[List.getElem?_map,List.getElem?_range hq];rfl
theorem Y3b(K:List Q9)(r:Q9){q:Nat}(hq:q<33)(hp:r.page=(q:Int))(hk:r.kind=2\/r.kind=3)(h0:Xa K (q:Int)=0):(Uq K).set q ((K.length:Int)+1)=Uq (K++[r]):=by
 apply List.ext_getElem?
 intro j
 by_cases hj:j<33
 ·have e:Xa (K++[r]) (j:Int)=if(j:Int)=r.page then(K.length:Int)+1 else Xa K (j:Int):=by
   rw[J8]
   unfold Jh
   have hc:(r.kind=2\/r.kind=3)/\Xa K r.page=0:=⟨hk,by rw[hp];exact h0⟩
   simp only[if_pos hc]
  rw[Dh _ hj,e,List.getElem?_set]
  by_cases he:q=j
  ·subst he
   simp[hp,hq]
  ·rw[if_neg he,Dh _ hj,if_neg (by rw[hp];omega)]
 ·rw[List.getElem?_eq_none (by simp;omega),List.getElem?_eq_none (by simp;omega)]
theorem Y0f(K:List Q9)(r:Q9)(h0:Xa K r.page≠0):Uq (K++[r])=Uq K:=by
 unfold Uq
 rw[J8]
 unfold Jh
 rw[if_neg (fun h=>h0 h.2)]
theorem Cg(K:List Q9)(r:Q9)(hk:¬(r.kind=2\/r.kind=3)):Uq (K++[r])=Uq K:=by
 unfold Uq
 rw[J8]
 unfold Jh
 rw[if_neg (fun h=>hk h.1)]
theorem Q2h{r:Q9}(h:Qq r=true)(hk:r.kind=2\/r.kind=3):1<=r.page/\r.page<=32:=by
 unfold Qq at h
 have hp:Xi r=32:=by unfold Xi;rw[if_pos (by omega)]
 rw[hp]at h
 simp only[Bool.and_eq_true]at h
 obtain⟨⟨⟨⟨⟨_,h3⟩,_⟩,_⟩,_⟩,_⟩:=h
 unfold inR at h3
 simp only[Bool.and_eq_true,decide_eq_true_eq]at h3
 omega
theorem Q0n{P:List Q9->Prop}(h0:P [])(hs:∀L r,P L->P (L++[r])):∀(n:Nat) (L:List Q9),L.length=n->P L
 |0,L,hn=>by obtain rfl:=List.eq_nil_of_length_eq_zero hn;exact h0
 |n+1,L,hn=>by
  rcases List.eq_nil_or_concat L with h|⟨K,r,h⟩
  ·rw[h]at hn;cases hn
  ·subst h
   rw[List.concat_eq_append]at hn ⊢
   exact hs K r (Q0n h0 hs n K (by rw[List.length_append,List.length_singleton]at hn;omega))
theorem Q4a(L:List Q9)(p:Int):0<=Xa L p/\Xa L p<=L.length:=
 Q0n (P:=fun L=>0<=Xa L p/\Xa L p<=L.length) ⟨Int.le_refl _,Int.le_refl _⟩ (fun L r ⟨h1,h2⟩=>by
  rw[J8,List.length_append,List.length_singleton]
  unfold Jh
  split
  ·show 0<=(if p=r.page then(L.length:Int)+1 else Xa L p)/\(if p=r.page then(L.length:Int)+1 else Xa L p)<=((L.length+1:Nat):Int)
   split<;>omega
  ·omega) _ L rfl
theorem Q2a(L:List Q9)(hg:∀r∈L,Qq r=true)(p:Int)(hp:p<1\/32<p):Xa L p=0:=
 Q0n (P:=fun L=>(∀r∈L,Qq r=true)->Xa L p=0) (fun _=>rfl) (fun L r ih hg=>by
  rw[J8]
  unfold Jh
  split
  ·rename_i h
   have hb:=Q2h (hg r (by simp)) h.1
   show(if p=r.page then(L.length:Int)+1 else Xa L p)=0
   rw[if_neg (by omega)]
   exact ih (fun r hr=>hg r (List.mem_append_left _ hr))
  ·exact ih (fun r hr=>hg r (List.mem_append_left _ hr))) _ L rfl hg
theorem Q4t(L:List Q9):(Zz L).length<=L.length:=
 Q0n (P:=fun L=>(Zz L).length<=L.length) (Nat.le_refl _) (fun L r ih=>by
  rw[Yz,List.length_append,List.length_singleton]
  unfold Jd
  split
  ·rw[List.length_append,List.length_singleton];omega
  ·split
   ·exact Nat.le_trans (List.length_filter_le _ _) (by omega)
   ·omega) _ L rfl
structure Ei(d:List (Int×Int))(p:Int)(n:Nat):Prop where
 few:n<=d.length
 lo:∀y∈d.take n,y.1<p
 hi:∀y∈d.drop n,p<=y.1
theorem Ei.zero{L:List Q9}{t:List TX}{m:Int}{d:List (Int×Int)}(h:Om L t m d)(hg:∀r∈L,Qq r=true):Ei d 1 0:=
 ⟨Nat.zero_le _,fun y hy=>(by cases hy),fun y hy=>by
  rw[List.drop_zero]at hy
  obtain⟨h1,h2⟩:=(h.Zt y).1 hy
  rcases Int.lt_or_le y.1 1 with h3|h3
  ·rw[Q2a L hg y.1 (.inl h3)]at h1
   exact absurd h1.symm h2
  ·exact h3⟩
theorem Ei.skip{L:List Q9}{t:List TX}{m:Int}{d:List (Int×Int)}{p:Int}{n:Nat}(h:Om L t m d)(hu:Ei d p n)(hz:Xa L p=0):Ei d (p+1) n:=
 ⟨hu.few,fun y hy=>by have:=hu.lo y hy;omega,fun y hy=>by
  have h1:=hu.hi y hy
  obtain⟨h2,h3⟩:=(h.Zt y).1 (List.mem_of_mem_drop hy)
  rcases Int.lt_or_le p y.1 with h4|h4
  ·omega
  ·obtain h5:y.1=p:=by omega
   rw[h5,hz]at h2
   exact absurd h2.symm h3⟩
theorem Ei.next{L:List Q9}{t:List TX}{m:Int}{d:List (Int×Int)}{p:Int}{n:Nat}(h:Om L t m d)(hu:Ei d p n)(hz:Xa L p≠0):d[n]? =some (p,Xa L p)/\Ei d (p+1) (n+1):=by
 have hm:(p,Xa L p)∈d:=(h.Zt _).2 ⟨rfl,hz⟩
 have hd:(p,Xa L p)∈d.drop n:=by
  rw[<-List.take_append_drop n d]at hm
  rcases List.mem_append.1 hm with h1|h1
  ·have:=hu.lo _ h1
   exact absurd this (Int.lt_irrefl _)
  ·exact h1
 have hr:=h.Q4f
 unfold Qd at hr
 rw[<-List.take_append_drop n d,List.pairwise_append]at hr
 obtain⟨_,hr2,_⟩:=hr
 cases hc:d.drop n with
 |nil=>rw[hc]at hd;cases hd
 |cons y ys=>
  rw[hc]at hd hr2
  rw[List.pairwise_cons]at hr2
  have hy:y=(p,Xa L p):=by
   rcases List.mem_cons.1 hd with h1|h1
   ·exact h1.symm
   ·have h2:=hr2.1 _ h1
    have h3:=hu.hi y (by rw[hc];exact List.mem_cons_self)
    exact absurd h2 (by show ¬y.1<p;omega)
  have hn:d[n]? =some y:=by
   have:=List.getElem?_drop (xs:=d) (i:=n) (j:=0)
   rw[hc]at this
   simpa using this.symm
  have hlt:=(List.getElem?_eq_some_iff.1 hn).1
  refine⟨by rw[hn,hy],hlt,fun z hzz=> ?_,fun z hzz=> ?_⟩
  ·rw[List.take_add_one,hn]at hzz
   rcases List.mem_append.1 hzz with h1|h1
   ·have:=hu.lo z h1;omega
   ·have h2:z=y:=by simpa using h1
    rw[h2,hy]
    show p<p+1
    omega
  ·have:d.drop (n+1)=ys:=by
    rw[<-List.drop_drop (i:=1) (j:=n),hc];rfl
   rw[this]at hzz
   have h2:=hr2.1 z hzz
   rw[hy]at h2
   have h2':p<z.1:=h2
   omega
theorem Ei.all{L:List Q9}{t:List TX}{m:Int}{d:List (Int×Int)}{n:Nat}(h:Om L t m d)(hg:∀r∈L,Qq r=true)(hu:Ei d 33 n):n=d.length:=by
 have hf:=hu.few
 rcases Nat.lt_or_ge n d.length with h1|h1
 ·have hy:d[n]∈d.drop n:=by
   rw[List.drop_eq_getElem_cons h1]
   exact List.mem_cons_self
  have h2:=hu.hi _ hy
  obtain⟨h3,h4⟩:=(h.Zt _).1 (List.mem_of_mem_drop hy)
  rw[Q2a L hg _ (.inr (by omega))]at h3
  exact absurd h3.symm h4
 ·omega
theorem Y5p{L:List Q9}{t:List TX}{m:Int}{d:List (Int×Int)}(h:Om L t m d){i:Nat}{x:TX}(hx:t[i]? =some x):(Zz L)[i]? =some x.1:=by
 rw[<-h.open_,List.getElem?_map,hx];rfl
def X7b:Array Value:=(flat X6 (List.replicate 33 (0:Int))).toArray
theorem Y1c(w:World):Own X6 1 3 w.heap.size (w.alloc (.cells X7b 3)) (.slice (some ⟨w.heap.size,0,none⟩) 33 33) (Uq []):=by
 rw[Y3a]
 exact Own.Jc (heap_alloc_new _ _) (Nat.le_refl _) Jm List.length_replicate (Nat.le_refl _) (by unfold maxLen;omega) (by kernel_rfl) (by unfold X7b;rw[List.take_of_length_le (by rw[Jm.Qp,List.length_replicate];exact Nat.le_refl _)])
theorem Ol{K:List Q9}{i:Nat}{x:Q9}(hx:K[i]? =some x):K.take (i+1)=K.take i++[x]:=by rw[List.take_add_one,hx];rfl
theorem Y7j{K:List Q9}{i:Nat}{x:Q9}(hx:K[i]? =some x)(h:x.kind=1):Zz (K.take (i+1))=Zz (K.take i)++[x.txn]/\Jk (K.take (i+1))=max (Jk (K.take i)) x.txn/\Uq (K.take (i+1))=Uq (K.take i):=by
 rw[Ol hx]
 refine⟨?_,?_,Cg _ _ (by omega)⟩
 ·rw[Yz];unfold Jd;rw[if_pos h]
 ·rw[Zj];unfold Jt;rw[if_pos h]
theorem Y7k{K:List Q9}{i:Nat}{x:Q9}(hx:K[i]? =some x)(h:x.kind=6):Zz (K.take (i+1))=(Zz (K.take i)).filter (fun z=>decide (z≠x.txn))/\Jk (K.take (i+1))=Jk (K.take i)/\Uq (K.take (i+1))=Uq (K.take i):=by
 rw[Ol hx]
 refine⟨?_,?_,Cg _ _ (by omega)⟩
 ·rw[Yz];unfold Jd;rw[if_neg (by omega),if_pos h]
 ·rw[Zj];unfold Jt;rw[if_neg (by omega)]
theorem Y2z{K:List Q9}{i:Nat}{x:Q9}{q:Nat}(hx:K[i]? =some x)(h:x.kind=2\/x.kind=3)(hq:q<33)(hp:x.page=(q:Int))(h0:Xa (K.take i) (q:Int)=0)(hi:(K.take i).length=i):Zz (K.take (i+1))=Zz (K.take i)/\Jk (K.take (i+1))=Jk (K.take i)/\Uq (K.take (i+1))=(Uq (K.take i)).set q ((i:Int)+1):=by
 rw[Ol hx]
 refine⟨?_,?_,?_⟩
 ·rw[Yz];unfold Jd;rw[if_neg (by omega),if_neg (by omega)]
 ·rw[Zj];unfold Jt;rw[if_neg (by omega)]
 ·have:=Y3b (K.take i) x hq hp h h0
  rw[hi]at this
  exact this.symm
theorem Y0e{K:List Q9}{i:Nat}{x:Q9}(hx:K[i]? =some x)(h:x.kind=2\/x.kind=3)(h0:Xa (K.take i) x.page≠0):Zz (K.take (i+1))=Zz (K.take i)/\Jk (K.take (i+1))=Jk (K.take i)/\Uq (K.take (i+1))=Uq (K.take i):=by
 rw[Ol hx]
 refine⟨?_,?_,Y0f _ _ h0⟩
 ·rw[Yz];unfold Jd;rw[if_neg (by omega),if_neg (by omega)]
 ·rw[Zj];unfold Jt;rw[if_neg (by omega)]
theorem Y0d{K:List Q9}{i:Nat}{x:Q9}(hx:K[i]? =some x)(h1:x.kind≠1)(h6:x.kind≠6)(h2:¬(x.kind=2\/x.kind=3)):Zz (K.take (i+1))=Zz (K.take i)/\Jk (K.take (i+1))=Jk (K.take i)/\Uq (K.take (i+1))=Uq (K.take i):=by
 rw[Ol hx]
 refine⟨?_,?_,Cg _ _ h2⟩
 ·rw[Yz];unfold Jd;rw[if_neg h1,if_neg h6]
 ·rw[Zj];unfold Jt;rw[if_neg h1]
theorem Own.zero{α:Type}{enc:α->List Value}{sz:Nat}{e:TypeId}{base:Nat}{w:World}{A:Option Addr}{n cap:Nat}{l:List α}(h:Own enc sz e base w (.slice A n cap) l):(A=none/\n=0/\cap=0/\l=[])\/∃g,A=some ⟨g,0,none⟩:=by
 have hl:=h.len
 rcases h.2 with ⟨h',_⟩|⟨g',cap',cur,h',_⟩
 ·have h2:=h'
  injection h2 with ha hb hc
  have:l.length=0:=by omega
  exact .inl ⟨ha,hb,hc,List.eq_nil_of_length_eq_zero this⟩
 ·injection h' with ha _ _
  exact .inr ⟨g',ha⟩
theorem Own.Y8i{e:TypeId}{base:Nat}{w:World}{g n cap:Nat}{l:List Int}(h:Own X6 1 e base w (.slice (some ⟨g,0,none⟩) n cap) l){k:Nat}{x:Int}(y:Int)(hx:l[k]? =some x):Own X6 1 e base (w.setCell ⟨g,k,none⟩ (.int .i64 y)) (.slice (some ⟨g,0,none⟩) n cap) (l.set k y):=by
 have:=Own.set (j:=0) (x':=y) (u:=.int .i64 y) Jm h hx (by omega) rfl
 simpa using this
theorem Q9j{p:Int->Bool}{l:List Int}{i:Nat}{x:Int}(hx:l[i]? =some x):(l.take (i+1)).filter p=if p x=true then(l.take i).filter p++[x] else(l.take i).filter p:=by
 have:l.take (i+1)=l.take i++[x]:=by rw[List.take_add_one,hx];rfl
 rw[this,List.filter_append]
 split
 ·rename_i h
  simp[h]
 ·rename_i h
  simp[h]
theorem Ct{w W wa:World}{v:Value}(hb:Below w.heap.size w W)(hg:W.grownBy wa v.ownBlock)(hv:∀q,v.ownBlock=some q->w.heap.size<=q):Below w.heap.size w wa:=
 hb.trans ⟨hg.os,hg.tape,hg.output,hg.size,fun k hk=>hg.block k (Nat.lt_of_lt_of_le hk hb.size) (fun he=>by have:=hv k he.symm;omega)⟩
theorem Own.drewN{α:Type}{enc:α->List Value}{sz:Nat}{e:TypeId}{base:Nat}{w:World}{v:Value}{l:List α}(h:Own enc sz e base w v l)(n:Nat):Own enc sz e base (w.drewN n) v l:=h
end Go.Proofs.YtoapihepdallbaaGreatDoor
