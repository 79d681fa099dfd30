import Derived.Deep.RegionHeld3
import Derived.Test.YtoapihepdallbaaGreatDoorP03
namespace Go.Proofs.YtoapihepdallbaaGreatDoor
open Go.RowKit
section
structure Uv where
 lp:Value
 u:Value
variable{R:Uv}
structure Jp(R:Uv)(w:World)(tb:Nat)(row:Option Nat)(l:List TX)(m:Int):Prop where
 val:∃v:Value,v.ownBlock=row/\w.heap[tb]? =some (.cells #[R.lp,v,.int .i64 m,R.u] 125 (0,0))/\Own Qg 4 58 0 w v l
 apart:row≠some tb
 rising:Qd l
theorem Jp.kp{w w':World}{tb:Nat}{row:Option Nat}{l:List TX}{m:Int}{S:Nat->Prop}(h:Jp R w tb row l m)(k:Kp S w w')(h1:¬S tb)(h2:∀q,row=some q->¬S q):Jp R w' tb row l m:=by
 obtain⟨⟨v,hv,hc,hown⟩,hap,hr⟩:=h
 exact⟨⟨v,hv,k.at hc h1,hown.kp k (fun q hq=>h2 q (by rw[<-hv];exact hq))⟩,hap,hr⟩
theorem Jp.bel{w w':World}{tb:Nat}{row:Option Nat}{l:List TX}{m:Int}(h:Jp R w tb row l m)(hb:Below w.heap.size w w'):Jp R w' tb row l m:=h.kp (Kp.Qi hb (fun _=>False)) id (fun _ _=>id)
def V5(R:Uv)(tb:Nat)(row:Option Nat)(l:List TX)(m:Int)(w w':World):Prop:=
 ∃row',Jp R w' tb row' l m/\Kp (fun q=>q=tb\/some q=row) w w'/\(row'=row\/∀q,row'=some q->w.heap.size<=q)
theorem V5.same{tb:Nat}{row:Option Nat}{l:List TX}{m:Int}{w w':World}(h:Jp R w tb row l m)(hb:Below w.heap.size w w'):V5 R tb row l m w w':=⟨row,h.bel hb,Kp.Qi hb _,.inl rfl⟩
theorem V5.stored{tb:Nat}{row:Option Nat}{l:List TX}{m:Int}{w w2:World}{v u:Value}(hc:w2.heap[tb]? =some (.cells #[R.lp,u,.int .i64 m,R.u] 125 (0,0)))(hown:Own Qg 4 58 0 w2 v l)(hr:Qd l)
  (hlt:tb<w.heap.size) (hk:Kp (fun q=>q=tb\/some q=row) w w2) (hat:∀q,v.ownBlock=some q->w.heap.size<=q):V5 R tb row l m w (w2.setCell ⟨tb,1,none⟩ v):=by
 have hne:v.ownBlock≠some tb:=by
  intro he
  have:=hat _ he;omega
 refine⟨v.ownBlock,⟨⟨v,rfl,?_,hown.kp (Kp.setCell w2 _ v) (fun q hq he=>hne (by rw[hq,he]))⟩,hne,hr⟩,?_,.inr hat⟩
 ·rw[Qn hc 1 v];rfl
 ·exact hk.trans (Kp.setCell w2 ⟨tb,1,none⟩ v) (fun q hq=> .inl (.inl hq))
theorem V5.U0{tb:Nat}{row:Option Nat}{l:List TX}{m m':Int}{w:World}(h:Jp R w tb row l m):V5 R tb row l m' w (w.setCell ⟨tb,2,none⟩ (.int .i64 m')):=by
 obtain⟨⟨v,hv,hc,hown⟩,hap,hr⟩:=h
 refine⟨row,⟨⟨v,hv,?_,hown.kp (Kp.setCell w _ _) (fun q hq he=>hap (by rw[<-hv,hq,he]))⟩,hap,hr⟩,(Kp.setCell w ⟨tb,2,none⟩ _).mono (fun q hq=> .inl hq),.inl rfl⟩
 rw[Qn hc 2 _];rfl
theorem Y7i{β:Type}{l:List (Int×β)}(hr:Qd l){i:Nat}{x:Int×β}(h:l[i]? =some x):pos l x.1=i:=by
 obtain⟨y,hy,hk⟩:=(Zq hr x.1).1 (Gd h)
 rcases Nat.lt_trichotomy (pos l x.1) i with h1|h1|h1
 ·have:=hr.lt h1 hy h;omega
 ·exact h1
 ·have:=hr.lt h1 h hy;omega
theorem V5.X6w{tb g n cap:Nat}{l l':List TX}{m:Int}{w w':World}(h:Jp R w tb (some g) l m)(hv:w'.heap[tb]? =w.heap[tb]?)(hc:w.heap[tb]? =some (.cells #[R.lp,.slice (some ⟨g,0,none⟩) n cap,.int .i64 m,R.u] 125 (0,0)))
  (hown:Own Qg 4 58 0 w' (.slice (some ⟨g,0,none⟩) n cap) l') (hr:Qd l') (hk:Kp (fun q=>q=g) w w'):V5 R tb (some g) l' m w w':=
 ⟨some g,⟨⟨_,rfl,hv.trans hc,hown⟩,h.apart,hr⟩,hk.mono (fun q hq=> .inr (by rw[hq])),.inl rfl⟩
end
section
section
variable{β:Type}
theorem Df{l:List (Int×β)}{k:Int}{y:Int×β}(h:y∈X4 l k):y∈l:=by
 unfold X4 at h
 split at h
 ·unfold cut at h
  rcases List.mem_append.1 h with h|h
  ·exact List.mem_of_mem_take h
  ·exact List.mem_of_mem_drop h
 ·exact h
theorem Q3g{l:List (Int×β)}{k:Int}(h:∀x∈l,x.1≠k):has l k=false:=by
 cases hh:has l k with
 |false=>rfl
 |true=>
  obtain⟨x,hx,hk⟩:=Qy.1 hh
  exact absurd hk (h x hx)
theorem X7u{l:List (Int×β)}{k:Int}(h:∀x∈l,x.1<k):pos l k=l.length:=by
 unfold pos
 rw[List.countP_eq_length]
 intro x hx
 simpa using h x hx
theorem Oj{l:List (Int×β)}{x:Int×β}(h:∀y∈l,y.1<x.1):Qt l x=l++[x]:=by
 rw[Ex (Q3g (fun y hy=>by have:=h y hy;omega))]
 unfold put
 rw[X7u h,List.take_length,List.drop_length]
theorem Y6d{l:List (Int×β)}{k:Int}{y:β}(f:β->β)(h:∀z∈l,z.1<k):upd (l++[(k,y)]) k f=l++[(k,f y)]:=by
 have hp:pos (l++[(k,y)]) k=l.length:=by
  unfold pos
  rw[List.countP_append,List.countP_cons_of_neg (by simp)]
  have:=X7u h
  unfold pos at this
  rw[this]
  simp
 have hh:has (l++[(k,y)]) k=true:=Qy.2 ⟨(k,y),by simp,rfl⟩
 rw[Za (x:=(k,y)) f hh (by rw[hp];simp),hp]
 simp
end
end
section
variable{R:Uv}
theorem X9x{β:Type}{l:List (Int×β)}(hr:Qd l)(x:Int×β):put (X4 l x.1) x=Qt l x:=by
 cases hh:has l x.1 with
 |false=>rw[drop'_no hh,Ex hh]
 |true=>
  obtain⟨y,hy,hk⟩:=(Zq hr x.1).1 hh
  have hlt:=(List.getElem?_eq_some_iff.1 hy).1
  have hd:l.drop (pos l x.1)=y::l.drop (pos l x.1+1):=by
   obtain⟨h1,h2⟩:=List.getElem?_eq_some_iff.1 hy
   rw[List.drop_eq_getElem_cons h1,h2]
  have hp:pos (X4 l x.1) x.1=pos l x.1:=by
   rw[drop'_yes hh]
   have h1:pos l x.1=(l.take (pos l x.1)++l.drop (pos l x.1)).countP (fun z=>decide (z.1<x.1)):=by rw[List.take_append_drop];rfl
   conv=>rhs;rw[h1,hd,List.countP_append,List.countP_cons_of_neg (by simp;omega)]
   conv=>lhs;unfold pos
   rw[List.countP_append]
   rfl
  have ht:(l.take (pos l x.1)).length=pos l x.1:=by rw[List.length_take];omega
  rw[Vm hh]
  unfold put
  rw[hp,drop'_yes hh,List.take_left' ht,List.drop_left' ht,List.set_eq_take_append_cons_drop,if_pos hlt]
def X7z(R:Uv)(w w1:World)(tb:Nat)(row:Option Nat)(l:List TX)(m:Int)(o:Obj):Prop:=
 ∃row1,Jp R w1 tb row1 l m/\Kp (fun q=>q=tb\/some q=row) w w1/\(row1=row\/∀q,row1=some q->w.heap.size<=q)/\w1.heap[w.heap.size]? =(w.alloc o).heap[w.heap.size]?/\tb<w.heap.size/\row1≠some w.heap.size
section
variable{w w1 w2:World}{tb:Nat}{row:Option Nat}{l l':List TX}{m m':Int}{o:Obj}
theorem X7z.start(h:Jp R w tb row l m)(o:Obj):X7z R w (w.alloc o) tb row l m o:=by
 refine⟨row,h.bel ((Below.refl _ _).alloc (Nat.le_refl _) o),Kp.alloc _ _ _,.inl rfl,rfl,?_,?_⟩
 ·obtain⟨⟨v,hv,hc,hown⟩,_,_⟩:=h;exact Q6 hc
 ·obtain⟨⟨v,hv,hc,hown⟩,_,_⟩:=h
  intro he
  have:=(hown.lt _ (hv.trans he)).2
  omega
theorem X7z.lt(h:X7z R w w1 tb row l m o):w.heap.size<w1.heap.size:=by
 obtain⟨_,_,_,_,hb,_,_⟩:=h
 rw[heap_alloc_new]at hb
 exact Q6 hb
theorem X7z.step{row1:Option Nat}(_h1:Jp R w1 tb row1 l m)(hk:Kp (fun q=>q=tb\/some q=row) w w1)(hat:row1=row\/∀q,row1=some q->w.heap.size<=q)(hb:w1.heap[w.heap.size]? =(w.alloc o).heap[w.heap.size]?)(htl:tb<w.heap.size)(hr1:row1≠some w.heap.size)
  (hl:V5 R tb row1 l' m' w1 w2):X7z R w w2 tb row l' m' o:=by
 obtain⟨row2,ht2,hk2,hat2⟩:=hl
 have hlt:w.heap.size<w1.heap.size:=by rw[heap_alloc_new]at hb;exact Q6 hb
 refine⟨row2,ht2,hk.trans hk2 (fun q hq=> ?_),?_,?_,htl,?_⟩
 ·rcases hq with hq|hq
  ·exact .inl (.inl hq)
  ·rcases hat with hat|hat
   ·exact .inl (.inr (by rw[<-hat];exact hq))
   ·exact .inr (hat q hq.symm)
 ·rcases hat2 with h2|hat2
  ·rcases hat with hat|hat
   ·exact .inl (h2.trans hat)
   ·exact .inr (fun q hq=>hat q (h2.symm.trans hq))
  ·exact .inr (fun q hq=>Nat.le_trans (Nat.le_of_lt hlt) (Nat.le_trans (Nat.le_refl _) (hat2 q hq)))
 ·exact(hk2.block _ hlt (fun hq=>hq.elim (fun h=>by omega) (fun h=>hr1 h.symm))).trans hb
 ·rcases hat2 with h2|hat2
  ·rw[h2];exact hr1
  ·intro he;have:=hat2 _ he;omega
end
section
variable(w w1:World)(tb:Nat)(row:Option Nat)(l:List TX)(m:Int)(o:Obj)(p:Int)
end
end
end Go.Proofs.YtoapihepdallbaaGreatDoor
