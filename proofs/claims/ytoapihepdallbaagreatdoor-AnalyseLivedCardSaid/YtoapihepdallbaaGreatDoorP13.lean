import Derived.Test.YtoapihepdallbaaGreatDoorP12
namespace Go.Proofs.YtoapihepdallbaaGreatDoor
open Go.RowKit
set_option maxHeartbeats 4000000
set_option maxRecDepth 10000
theorem Y4y(txn page prev next key:Int)(had has:Bool)(old new:Int):Qq ⟨4,txn,page,prev,next,key,had,has,old,new⟩=(inR txn 1 60000&&((page==0)&&(inR prev 0 1073741824&&(inR next 0 0&&(inR key 0 0&&Qk ⟨4,txn,page,prev,next,key,had,has,old,new⟩))))):=by
 have hp:Z7 ⟨4,txn,page,prev,next,key,had,has,old,new⟩=inR prev 0 1073741824:=by simp[Z7]
 have hn:Z6 ⟨4,txn,page,prev,next,key,had,has,old,new⟩=inR next 0 0:=by simp[Z6,Xr,Yd]
 have hk:Va ⟨4,txn,page,prev,next,key,had,has,old,new⟩=inR key 0 0:=by simp[Va,Xr,Yd]
 have ht:inR txn (min (Yv ⟨4,txn,page,prev,next,key,had,has,old,new⟩) 1) (Yv ⟨4,txn,page,prev,next,key,had,has,old,new⟩)=inR txn 1 60000:=by rw[show Yv ⟨4,txn,page,prev,next,key,had,has,old,new⟩=60000 by simp[Yv]];exact rfl
 have hg:inR page (min (Xi ⟨4,txn,page,prev,next,key,had,has,old,new⟩) 1) (Xi ⟨4,txn,page,prev,next,key,had,has,old,new⟩)=(page==0):=by rw[show Xi ⟨4,txn,page,prev,next,key,had,has,old,new⟩=0 by simp[Xi]];exact Xr page
 have h0:inR (4:Int) 1 10=true:=by decide
 unfold Qq
 rw[hp,hn,hk,ht,hg]
 simp only[h0,Bool.true_and,Bool.and_assoc]
theorem X8x(w:World)(txn page prev next key:Int)(had has:Bool)(old new:Int):Calls Tryz.prog 73 #[Yg ⟨4,txn,page,prev,next,key,had,has,old,new⟩] w fun e w'=>e=.returned (.bool (Qq ⟨4,txn,page,prev,next,key,had,has,old,new⟩))/\Below w.heap.size w w':=by
 have HB:Sc (Below w.heap.size w (w.alloc (.cells (Qe ⟨4,txn,page,prev,next,key,had,has,old,new⟩) 49))):=⟨Q3 (Below.refl _ _) _⟩
 rw[Y4y]
 cases e1:inR txn 1 60000 with
 |false=>
  go_enter Tryz.func73,Tryz.ntmps73
  go_wp2_with (go_at_call 120;first|(refine(Q4 _ (by assumption)).mono ?_;rintro e w' ⟨rfl,rfl⟩)|(refine(Q4 _ (show _=true by decide)).mono ?_;rintro e w' ⟨rfl,rfl⟩)|(refine(Q4 _ (show _=false by decide)).mono ?_;rintro e w' ⟨rfl,rfl⟩))
  go_ret
  exact⟨by simp,HB.o⟩
 |true=>
  by_cases ze2:page=0
  ·subst ze2
   cases e3:inR prev 0 1073741824 with
   |false=>
    go_enter Tryz.func73,Tryz.ntmps73
    go_wp2_with (go_at_call 120;first|(refine(Q4 _ (by assumption)).mono ?_;rintro e w' ⟨rfl,rfl⟩)|(refine(Q4 _ (show _=true by decide)).mono ?_;rintro e w' ⟨rfl,rfl⟩)|(refine(Q4 _ (show _=false by decide)).mono ?_;rintro e w' ⟨rfl,rfl⟩))
    go_ret
    exact⟨by simp,HB.o⟩
   |true=>
    cases e4:inR next 0 0 with
    |false=>
     go_enter Tryz.func73,Tryz.ntmps73
     go_wp2_with (go_at_call 120;first|(refine(Q4 _ (by assumption)).mono ?_;rintro e w' ⟨rfl,rfl⟩)|(refine(Q4 _ (show _=true by decide)).mono ?_;rintro e w' ⟨rfl,rfl⟩)|(refine(Q4 _ (show _=false by decide)).mono ?_;rintro e w' ⟨rfl,rfl⟩))
     go_ret
     exact⟨by simp,HB.o⟩
    |true=>
     cases e5:inR key 0 0 with
     |false=>
      go_enter Tryz.func73,Tryz.ntmps73
      go_wp2_with (go_at_call 120;first|(refine(Q4 _ (by assumption)).mono ?_;rintro e w' ⟨rfl,rfl⟩)|(refine(Q4 _ (show _=true by decide)).mono ?_;rintro e w' ⟨rfl,rfl⟩)|(refine(Q4 _ (show _=false by decide)).mono ?_;rintro e w' ⟨rfl,rfl⟩))
      go_ret
      exact⟨by simp,HB.o⟩
     |true=>
      cases had with
      |true=>
       go_enter Tryz.func73,Tryz.ntmps73
       go_wp2_with (go_at_call 120;first|(refine(Q4 _ (by assumption)).mono ?_;rintro e w' ⟨rfl,rfl⟩)|(refine(Q4 _ (show _=true by decide)).mono ?_;rintro e w' ⟨rfl,rfl⟩)|(refine(Q4 _ (show _=false by decide)).mono ?_;rintro e w' ⟨rfl,rfl⟩))
       go_ret
       exact⟨by simp[Qk],HB.o⟩
      |false=>
       by_cases ho:old=0
       ·subst ho
        cases has with
        |true=>
         go_enter Tryz.func73,Tryz.ntmps73
         go_wp2_with (go_at_call 120;first|(refine(Q4 _ (by assumption)).mono ?_;rintro e w' ⟨rfl,rfl⟩)|(refine(Q4 _ (show _=true by decide)).mono ?_;rintro e w' ⟨rfl,rfl⟩)|(refine(Q4 _ (show _=false by decide)).mono ?_;rintro e w' ⟨rfl,rfl⟩))
         go_ret
         exact⟨by simp[Qk],HB.o⟩
        |false=>
         by_cases hn:new=0
         ·subst hn
          go_enter Tryz.func73,Tryz.ntmps73
          go_wp2_with (go_at_call 120;first|(refine(Q4 _ (by assumption)).mono ?_;rintro e w' ⟨rfl,rfl⟩)|(refine(Q4 _ (show _=true by decide)).mono ?_;rintro e w' ⟨rfl,rfl⟩)|(refine(Q4 _ (show _=false by decide)).mono ?_;rintro e w' ⟨rfl,rfl⟩))
          go_ret
          exact⟨by simp[Qk],HB.o⟩
         ·have hb:=Ql hn
          go_enter Tryz.func73,Tryz.ntmps73
          go_wp2_with (go_at_call 120;first|(refine(Q4 _ (by assumption)).mono ?_;rintro e w' ⟨rfl,rfl⟩)|(refine(Q4 _ (show _=true by decide)).mono ?_;rintro e w' ⟨rfl,rfl⟩)|(refine(Q4 _ (show _=false by decide)).mono ?_;rintro e w' ⟨rfl,rfl⟩))
          go_ret
          exact⟨by simp[Qk,hn],HB.o⟩
       ·have hb:=Ql ho
        go_enter Tryz.func73,Tryz.ntmps73
        go_wp2_with (go_at_call 120;first|(refine(Q4 _ (by assumption)).mono ?_;rintro e w' ⟨rfl,rfl⟩)|(refine(Q4 _ (show _=true by decide)).mono ?_;rintro e w' ⟨rfl,rfl⟩)|(refine(Q4 _ (show _=false by decide)).mono ?_;rintro e w' ⟨rfl,rfl⟩))
        go_ret
        exact⟨by simp[Qk,ho],HB.o⟩
  ·have e2:=Ql ze2
   go_enter Tryz.func73,Tryz.ntmps73
   go_wp2_with (go_at_call 120;first|(refine(Q4 _ (by assumption)).mono ?_;rintro e w' ⟨rfl,rfl⟩)|(refine(Q4 _ (show _=true by decide)).mono ?_;rintro e w' ⟨rfl,rfl⟩)|(refine(Q4 _ (show _=false by decide)).mono ?_;rintro e w' ⟨rfl,rfl⟩))
   go_ret
   exact⟨by simp[ze2],HB.o⟩
theorem Y4z(txn page prev next key:Int)(had has:Bool)(old new:Int):Qq ⟨5,txn,page,prev,next,key,had,has,old,new⟩=(inR txn 1 60000&&((page==0)&&(inR prev 0 1073741824&&(inR next 0 0&&(inR key 0 0&&Qk ⟨5,txn,page,prev,next,key,had,has,old,new⟩))))):=by
 have hp:Z7 ⟨5,txn,page,prev,next,key,had,has,old,new⟩=inR prev 0 1073741824:=by simp[Z7]
 have hn:Z6 ⟨5,txn,page,prev,next,key,had,has,old,new⟩=inR next 0 0:=by simp[Z6,Xr,Yd]
 have hk:Va ⟨5,txn,page,prev,next,key,had,has,old,new⟩=inR key 0 0:=by simp[Va,Xr,Yd]
 have ht:inR txn (min (Yv ⟨5,txn,page,prev,next,key,had,has,old,new⟩) 1) (Yv ⟨5,txn,page,prev,next,key,had,has,old,new⟩)=inR txn 1 60000:=by rw[show Yv ⟨5,txn,page,prev,next,key,had,has,old,new⟩=60000 by simp[Yv]];exact rfl
 have hg:inR page (min (Xi ⟨5,txn,page,prev,next,key,had,has,old,new⟩) 1) (Xi ⟨5,txn,page,prev,next,key,had,has,old,new⟩)=(page==0):=by rw[show Xi ⟨5,txn,page,prev,next,key,had,has,old,new⟩=0 by simp[Xi]];exact Xr page
 have h0:inR (5:Int) 1 10=true:=by decide
 unfold Qq
 rw[hp,hn,hk,ht,hg]
 simp only[h0,Bool.true_and,Bool.and_assoc]
theorem X8y(w:World)(txn page prev next key:Int)(had has:Bool)(old new:Int):Calls Tryz.prog 73 #[Yg ⟨5,txn,page,prev,next,key,had,has,old,new⟩] w fun e w'=>e=.returned (.bool (Qq ⟨5,txn,page,prev,next,key,had,has,old,new⟩))/\Below w.heap.size w w':=by
 have HB:Sc (Below w.heap.size w (w.alloc (.cells (Qe ⟨5,txn,page,prev,next,key,had,has,old,new⟩) 49))):=⟨Q3 (Below.refl _ _) _⟩
 rw[Y4z]
 cases e1:inR txn 1 60000 with
 |false=>
  go_enter Tryz.func73,Tryz.ntmps73
  go_wp2_with (go_at_call 120;first|(refine(Q4 _ (by assumption)).mono ?_;rintro e w' ⟨rfl,rfl⟩)|(refine(Q4 _ (show _=true by decide)).mono ?_;rintro e w' ⟨rfl,rfl⟩)|(refine(Q4 _ (show _=false by decide)).mono ?_;rintro e w' ⟨rfl,rfl⟩))
  go_ret
  exact⟨by simp,HB.o⟩
 |true=>
  by_cases ze2:page=0
  ·subst ze2
   cases e3:inR prev 0 1073741824 with
   |false=>
    go_enter Tryz.func73,Tryz.ntmps73
    go_wp2_with (go_at_call 120;first|(refine(Q4 _ (by assumption)).mono ?_;rintro e w' ⟨rfl,rfl⟩)|(refine(Q4 _ (show _=true by decide)).mono ?_;rintro e w' ⟨rfl,rfl⟩)|(refine(Q4 _ (show _=false by decide)).mono ?_;rintro e w' ⟨rfl,rfl⟩))
    go_ret
    exact⟨by simp,HB.o⟩
   |true=>
    cases e4:inR next 0 0 with
    |false=>
     go_enter Tryz.func73,Tryz.ntmps73
     go_wp2_with (go_at_call 120;first|(refine(Q4 _ (by assumption)).mono ?_;rintro e w' ⟨rfl,rfl⟩)|(refine(Q4 _ (show _=true by decide)).mono ?_;rintro e w' ⟨rfl,rfl⟩)|(refine(Q4 _ (show _=false by decide)).mono ?_;rintro e w' ⟨rfl,rfl⟩))
     go_ret
     exact⟨by simp,HB.o⟩
    |true=>
     cases e5:inR key 0 0 with
     |false=>
      go_enter Tryz.func73,Tryz.ntmps73
      go_wp2_with (go_at_call 120;first|(refine(Q4 _ (by assumption)).mono ?_;rintro e w' ⟨rfl,rfl⟩)|(refine(Q4 _ (show _=true by decide)).mono ?_;rintro e w' ⟨rfl,rfl⟩)|(refine(Q4 _ (show _=false by decide)).mono ?_;rintro e w' ⟨rfl,rfl⟩))
      go_ret
      exact⟨by simp,HB.o⟩
     |true=>
      cases had with
      |true=>
       go_enter Tryz.func73,Tryz.ntmps73
       go_wp2_with (go_at_call 120;first|(refine(Q4 _ (by assumption)).mono ?_;rintro e w' ⟨rfl,rfl⟩)|(refine(Q4 _ (show _=true by decide)).mono ?_;rintro e w' ⟨rfl,rfl⟩)|(refine(Q4 _ (show _=false by decide)).mono ?_;rintro e w' ⟨rfl,rfl⟩))
       go_ret
       exact⟨by simp[Qk],HB.o⟩
      |false=>
       by_cases ho:old=0
       ·subst ho
        cases has with
        |true=>
         go_enter Tryz.func73,Tryz.ntmps73
         go_wp2_with (go_at_call 120;first|(refine(Q4 _ (by assumption)).mono ?_;rintro e w' ⟨rfl,rfl⟩)|(refine(Q4 _ (show _=true by decide)).mono ?_;rintro e w' ⟨rfl,rfl⟩)|(refine(Q4 _ (show _=false by decide)).mono ?_;rintro e w' ⟨rfl,rfl⟩))
         go_ret
         exact⟨by simp[Qk],HB.o⟩
        |false=>
         by_cases hn:new=0
         ·subst hn
          go_enter Tryz.func73,Tryz.ntmps73
          go_wp2_with (go_at_call 120;first|(refine(Q4 _ (by assumption)).mono ?_;rintro e w' ⟨rfl,rfl⟩)|(refine(Q4 _ (show _=true by decide)).mono ?_;rintro e w' ⟨rfl,rfl⟩)|(refine(Q4 _ (show _=false by decide)).mono ?_;rintro e w' ⟨rfl,rfl⟩))
          go_ret
          exact⟨by simp[Qk],HB.o⟩
         ·have hb:=Ql hn
          go_enter Tryz.func73,Tryz.ntmps73
          go_wp2_with (go_at_call 120;first|(refine(Q4 _ (by assumption)).mono ?_;rintro e w' ⟨rfl,rfl⟩)|(refine(Q4 _ (show _=true by decide)).mono ?_;rintro e w' ⟨rfl,rfl⟩)|(refine(Q4 _ (show _=false by decide)).mono ?_;rintro e w' ⟨rfl,rfl⟩))
          go_ret
          exact⟨by simp[Qk,hn],HB.o⟩
       ·have hb:=Ql ho
        go_enter Tryz.func73,Tryz.ntmps73
        go_wp2_with (go_at_call 120;first|(refine(Q4 _ (by assumption)).mono ?_;rintro e w' ⟨rfl,rfl⟩)|(refine(Q4 _ (show _=true by decide)).mono ?_;rintro e w' ⟨rfl,rfl⟩)|(refine(Q4 _ (show _=false by decide)).mono ?_;rintro e w' ⟨rfl,rfl⟩))
        go_ret
        exact⟨by simp[Qk,ho],HB.o⟩
  ·have e2:=Ql ze2
   go_enter Tryz.func73,Tryz.ntmps73
   go_wp2_with (go_at_call 120;first|(refine(Q4 _ (by assumption)).mono ?_;rintro e w' ⟨rfl,rfl⟩)|(refine(Q4 _ (show _=true by decide)).mono ?_;rintro e w' ⟨rfl,rfl⟩)|(refine(Q4 _ (show _=false by decide)).mono ?_;rintro e w' ⟨rfl,rfl⟩))
   go_ret
   exact⟨by simp[ze2],HB.o⟩
theorem Y5a(txn page prev next key:Int)(had has:Bool)(old new:Int):Qq ⟨6,txn,page,prev,next,key,had,has,old,new⟩=(inR txn 1 60000&&((page==0)&&(inR prev 0 1073741824&&(inR next 0 0&&(inR key 0 0&&Qk ⟨6,txn,page,prev,next,key,had,has,old,new⟩))))):=by
 have hp:Z7 ⟨6,txn,page,prev,next,key,had,has,old,new⟩=inR prev 0 1073741824:=by simp[Z7]
 have hn:Z6 ⟨6,txn,page,prev,next,key,had,has,old,new⟩=inR next 0 0:=by simp[Z6,Xr,Yd]
 have hk:Va ⟨6,txn,page,prev,next,key,had,has,old,new⟩=inR key 0 0:=by simp[Va,Xr,Yd]
 have ht:inR txn (min (Yv ⟨6,txn,page,prev,next,key,had,has,old,new⟩) 1) (Yv ⟨6,txn,page,prev,next,key,had,has,old,new⟩)=inR txn 1 60000:=by rw[show Yv ⟨6,txn,page,prev,next,key,had,has,old,new⟩=60000 by simp[Yv]];exact rfl
 have hg:inR page (min (Xi ⟨6,txn,page,prev,next,key,had,has,old,new⟩) 1) (Xi ⟨6,txn,page,prev,next,key,had,has,old,new⟩)=(page==0):=by rw[show Xi ⟨6,txn,page,prev,next,key,had,has,old,new⟩=0 by simp[Xi]];exact Xr page
 have h0:inR (6:Int) 1 10=true:=by decide
 unfold Qq
 rw[hp,hn,hk,ht,hg]
 simp only[h0,Bool.true_and,Bool.and_assoc]
theorem X8z(w:World)(txn page prev next key:Int)(had has:Bool)(old new:Int):Calls Tryz.prog 73 #[Yg ⟨6,txn,page,prev,next,key,had,has,old,new⟩] w fun e w'=>e=.returned (.bool (Qq ⟨6,txn,page,prev,next,key,had,has,old,new⟩))/\Below w.heap.size w w':=by
 have HB:Sc (Below w.heap.size w (w.alloc (.cells (Qe ⟨6,txn,page,prev,next,key,had,has,old,new⟩) 49))):=⟨Q3 (Below.refl _ _) _⟩
 rw[Y5a]
 cases e1:inR txn 1 60000 with
 |false=>
  go_enter Tryz.func73,Tryz.ntmps73
  go_wp2_with (go_at_call 120;first|(refine(Q4 _ (by assumption)).mono ?_;rintro e w' ⟨rfl,rfl⟩)|(refine(Q4 _ (show _=true by decide)).mono ?_;rintro e w' ⟨rfl,rfl⟩)|(refine(Q4 _ (show _=false by decide)).mono ?_;rintro e w' ⟨rfl,rfl⟩))
  go_ret
  exact⟨by simp,HB.o⟩
 |true=>
  by_cases ze2:page=0
  ·subst ze2
   cases e3:inR prev 0 1073741824 with
   |false=>
    go_enter Tryz.func73,Tryz.ntmps73
    go_wp2_with (go_at_call 120;first|(refine(Q4 _ (by assumption)).mono ?_;rintro e w' ⟨rfl,rfl⟩)|(refine(Q4 _ (show _=true by decide)).mono ?_;rintro e w' ⟨rfl,rfl⟩)|(refine(Q4 _ (show _=false by decide)).mono ?_;rintro e w' ⟨rfl,rfl⟩))
    go_ret
    exact⟨by simp,HB.o⟩
   |true=>
    cases e4:inR next 0 0 with
    |false=>
     go_enter Tryz.func73,Tryz.ntmps73
     go_wp2_with (go_at_call 120;first|(refine(Q4 _ (by assumption)).mono ?_;rintro e w' ⟨rfl,rfl⟩)|(refine(Q4 _ (show _=true by decide)).mono ?_;rintro e w' ⟨rfl,rfl⟩)|(refine(Q4 _ (show _=false by decide)).mono ?_;rintro e w' ⟨rfl,rfl⟩))
     go_ret
     exact⟨by simp,HB.o⟩
    |true=>
     cases e5:inR key 0 0 with
     |false=>
      go_enter Tryz.func73,Tryz.ntmps73
      go_wp2_with (go_at_call 120;first|(refine(Q4 _ (by assumption)).mono ?_;rintro e w' ⟨rfl,rfl⟩)|(refine(Q4 _ (show _=true by decide)).mono ?_;rintro e w' ⟨rfl,rfl⟩)|(refine(Q4 _ (show _=false by decide)).mono ?_;rintro e w' ⟨rfl,rfl⟩))
      go_ret
      exact⟨by simp,HB.o⟩
     |true=>
      cases had with
      |true=>
       go_enter Tryz.func73,Tryz.ntmps73
       go_wp2_with (go_at_call 120;first|(refine(Q4 _ (by assumption)).mono ?_;rintro e w' ⟨rfl,rfl⟩)|(refine(Q4 _ (show _=true by decide)).mono ?_;rintro e w' ⟨rfl,rfl⟩)|(refine(Q4 _ (show _=false by decide)).mono ?_;rintro e w' ⟨rfl,rfl⟩))
       go_ret
       exact⟨by simp[Qk],HB.o⟩
      |false=>
       by_cases ho:old=0
       ·subst ho
        cases has with
        |true=>
         go_enter Tryz.func73,Tryz.ntmps73
         go_wp2_with (go_at_call 120;first|(refine(Q4 _ (by assumption)).mono ?_;rintro e w' ⟨rfl,rfl⟩)|(refine(Q4 _ (show _=true by decide)).mono ?_;rintro e w' ⟨rfl,rfl⟩)|(refine(Q4 _ (show _=false by decide)).mono ?_;rintro e w' ⟨rfl,rfl⟩))
         go_ret
         exact⟨by simp[Qk],HB.o⟩
        |false=>
         by_cases hn:new=0
         ·subst hn
          go_enter Tryz.func73,Tryz.ntmps73
          go_wp2_with (go_at_call 120;first|(refine(Q4 _ (by assumption)).mono ?_;rintro e w' ⟨rfl,rfl⟩)|(refine(Q4 _ (show _=true by decide)).mono ?_;rintro e w' ⟨rfl,rfl⟩)|(refine(Q4 _ (show _=false by decide)).mono ?_;rintro e w' ⟨rfl,rfl⟩))
          go_ret
          exact⟨by simp[Qk],HB.o⟩
         ·have hb:=Ql hn
          go_enter Tryz.func73,Tryz.ntmps73
          go_wp2_with (go_at_call 120;first|(refine(Q4 _ (by assumption)).mono ?_;rintro e w' ⟨rfl,rfl⟩)|(refine(Q4 _ (show _=true by decide)).mono ?_;rintro e w' ⟨rfl,rfl⟩)|(refine(Q4 _ (show _=false by decide)).mono ?_;rintro e w' ⟨rfl,rfl⟩))
          go_ret
          exact⟨by simp[Qk,hn],HB.o⟩
       ·have hb:=Ql ho
        go_enter Tryz.func73,Tryz.ntmps73
        go_wp2_with (go_at_call 120;first|(refine(Q4 _ (by assumption)).mono ?_;rintro e w' ⟨rfl,rfl⟩)|(refine(Q4 _ (show _=true by decide)).mono ?_;rintro e w' ⟨rfl,rfl⟩)|(refine(Q4 _ (show _=false by decide)).mono ?_;rintro e w' ⟨rfl,rfl⟩))
        go_ret
        exact⟨by simp[Qk,ho],HB.o⟩
  ·have e2:=Ql ze2
   go_enter Tryz.func73,Tryz.ntmps73
   go_wp2_with (go_at_call 120;first|(refine(Q4 _ (by assumption)).mono ?_;rintro e w' ⟨rfl,rfl⟩)|(refine(Q4 _ (show _=true by decide)).mono ?_;rintro e w' ⟨rfl,rfl⟩)|(refine(Q4 _ (show _=false by decide)).mono ?_;rintro e w' ⟨rfl,rfl⟩))
   go_ret
   exact⟨by simp[ze2],HB.o⟩
end Go.Proofs.YtoapihepdallbaaGreatDoor
