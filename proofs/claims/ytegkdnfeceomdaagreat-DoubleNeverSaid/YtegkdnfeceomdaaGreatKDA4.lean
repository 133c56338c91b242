/- Bundled: what the texts JG BX JH say one after another. -/
import Derived.Test.YtegkdnfeceomdaaGreatKDA2
import Derived.Test.YtegkdnfeceomdaaGreatKDA1
import Derived.Below
import Derived.Test.YtegkdnfeceomdaaGreatKDA3
set_option maxRecDepth 100000
set_option maxHeartbeats 16000000
set_option linter.unusedSimpArgs false
set_option linter.unusedVariables false
namespace Go.Proofs.YtegkdnfeceomdaaGreat
open Go.RowKit Go.Hs
theorem idx_par (cap:Value) (a:Option Addr) (c:Nat) (us:List V4) (p:Nat→Bool) (I:Nat→World→Prop) (w:World)
  (hlen:us.length≤140737488351232)
  (hrow:∀i w,I i w→Cells4 w a us)
  (hcall:∀i (h:i<us.length) w1,I i w1→Calls Tryz.prog 169 #[us[i].val,cap] w1 fun e w2=>e= .returned (.bool (p i))∧I (i+1) w2)
  (h0:I 0 w):
  Calls Tryz.prog 180 #[.slice a us.length c,.func (.func 169) #[] #[cap]] w
   (IdxPost us.length p I):=by
 go_enter Tryz.func180,Tryz.ntmps180
 go_wp2
 go_loopw [4,5,8] (fun r j i wr=>∃k:Nat,k≤us.length∧i= .int .i64 k∧(∀m,m<k→p m=false)∧I k wr) (fun _ _ i _=>us.length - (intOf i).toNat)
 case atStart=>exact⟨0,Nat.zero_le _,rfl,fun m hm=>absurd hm (Nat.not_lt_zero _),h0⟩
 case round=>
  obtain⟨k,hk,rfl,hp,hI⟩:=hrel;by_cases hlt:k<us.length
  ·obtain ⟨b, off, rfl, g0, g1, g2, g3⟩ := hrow k wr hI k hlt; have hc0 := hcall k hlt wr hI; cases hpk : p k
   ·rw [hpk] at hc0; clear hcall hrow; have HP := hHd hpk; clear hpk; go_wp2_with ((with_reducible refine hc0.mono ?_); rintro e w2 ⟨rfl, hI2⟩)
    go_roundw
    case rel=>exact⟨k+1,by omega,by go_num,fun m hm=>by
     by_cases e:m=k
     ·subst e;exact HP.out
     ·exact hp m (by omega),hI2⟩
    case measure=>simp [intOf];omega
   ·rw [hpk] at hc0; clear hcall hrow; have HP := hHd hpk; clear hpk; have HP0 := hHd hp; clear hp; go_wp2_with ((with_reducible refine hc0.mono ?_); rintro e w2 ⟨rfl, hI2⟩)
    go_ret;exact .inl ⟨k,hlt,HP.out,HP0.out,rfl,hI2⟩
  ·have hk' : k = us.length := by omega
   subst hk';have HP0:=hHd hp;clear hp;clear hcall hrow;go_wp2
   go_ret;exact .inr ⟨HP0.out,rfl,hI⟩
theorem cont_par (cap:Value) (a:Option Addr) (c:Nat) (us:List V4) (p:Nat→Bool) (I:Nat→World→Prop) (w:World)
  (hlen:us.length≤140737488351232)
  (hrow:∀i w,I i w→Cells4 w a us)
  (hcall:∀i (h:i<us.length) w1,I i w1→Calls Tryz.prog 169 #[us[i].val,cap] w1 fun e w2=>e= .returned (.bool (p i))∧I (i+1) w2)
  (h0:I 0 w):
  Calls Tryz.prog 168 #[.slice a us.length c,.func (.func 169) #[] #[cap]] w
   (ContPost us.length p I):=by
 have hi:=idx_par cap a c us p I w hlen hrow hcall h0;clear hrow hcall h0;go_enter Tryz.func168,Tryz.ntmps168
 go_wp2_with ((with_reducible refine hi.mono ?_);rintro e w2 (⟨i,hi1,hi2,hi3,rfl,hi5⟩|⟨hi3,rfl,hi5⟩))
 ·have H2 := hHd hi2; clear hi2; have H3 := hHd hi3; clear hi3; go_wp2
  go_ret;exact ContPost.yes hi1 H2.out (by simp) hi5
 ·have H3 := hHd hi3; clear hi3; go_wp2
  go_ret;exact ContPost.no H3.out (by simp) hi5
theorem alls_par (F:FuncId) (hF:FnOK F) (first caps:Array Value) (B:Nat) (x:V4) (r:Bool) (R:World→Prop) (w:World)
  (hcap:w.cell? ⟨B,0,none⟩=some (.func (.func F) first caps))
  (hcall:Calls Tryz.prog F (first.push x.val++caps) (w.alloc (.cells #[x.c0,x.c1,x.c2,x.c3] 193)) fun e w2=>e= .returned (.bool r)∧R w2):
  Calls Tryz.prog 169 #[x.val,.pointer (some ⟨B,0,none⟩)] w fun e w2=>e= .returned (.bool (!r))∧R w2:=by
 unfold FnOK at hF;have hB:B<w.heap.size:=lt_of_cell hcap;go_enter Tryz.func169,Tryz.ntmps169
 go_wp2_with ((with_reducible refine hcall.mono ?_);rintro e w2 ⟨rfl,hR⟩)
 go_ret;exact⟨rfl,hR⟩
theorem all_par (F:FuncId) (hF:FnOK F) (first caps:Array Value) (a:Option Addr) (c:Nat) (us:List V4) (q:Nat→Bool) (I:Nat→World→Prop) (w:World)
  (hlen:us.length≤140737488351232)
  (hrow:∀i w,I i w→Cells4 w a us)
  (hal:∀i w o,I i w→I i (w.alloc o))
  (hcall:∀i (h:i<us.length) w1,w.heap.size≤w1.heap.size→I i w1→Calls Tryz.prog F (first.push us[i].val++caps) w1 fun e w2=>e= .returned (.bool (q i))∧I (i+1) w2∧Kept w.heap.size w1 w2)
  (h0:I 0 w):
  Calls Tryz.prog 136 #[.slice a us.length c,.func (.func F) first caps] w
   (AllPost us.length q I):=by
 have hi:=cont_par (.pointer (some ⟨w.heap.size,0,none⟩)) a c us (fun i=> !q i) (AllInv w (.func (.func F) first caps) I) (w.alloc (.cells #[.func (.func F) first caps] 218)) hlen
  (fun i w1 h=>hrow i w1 h.inv)
  (fun i h w1 hI=>alls_par F hF first caps w.heap.size us[i] (q i) _ w1 hI.cell ((hcall i h (w1.alloc (.cells #[us[i].c0,us[i].c1,us[i].c2,us[i].c3] 193)) (Nat.le_trans (Nat.le_of_lt hI.size) ((Ext.refl w1).alloc (.cells #[us[i].c0,us[i].c1,us[i].c2,us[i].c3] 193)).size) (hal _ _ _ hI.inv)).mono fun e w3 h3=>⟨h3.1,AllInv.next hI ((Ext.refl w1).alloc (.cells #[us[i].c0,us[i].c1,us[i].c2,us[i].c3] 193)) h3.2.1 h3.2.2⟩))
  ⟨by simp,by simp,hal _ _ _ h0⟩
 clear hrow hcall h0 hal;go_enter Tryz.func136,Tryz.ntmps136
 go_wp2_with ((with_reducible refine hi.mono ?_);rintro e w2 ⟨i,hi1,hi2,rfl⟩)
 go_ret;exact⟨i,hi1,hi2.inv,ret_bool (by simp [allB,anyB,List.not_all_eq_any_not])⟩
theorem allx_par (F:FuncId) (hF:FnOK F) (first caps:Array Value) (a:Option Addr) (c:Nat) (us:List V4) (q:Nat→Bool) (w:World)
  (hlen:us.length≤140737488351232) (hrow:Cells4 w a us)
  (hcall:∀i (h:i<us.length) w1,Ext w w1→Calls Tryz.prog F (first.push us[i].val++caps) w1 fun e w2=>e= .returned (.bool (q i))∧Ext w1 w2):
  Calls Tryz.prog 136 #[.slice a us.length c,.func (.func F) first caps] w fun e w'=>e= .returned (.bool (allB us.length q))∧Ext w w':=
 (all_par F hF first caps a c us q (fun _ w' => Ext w w') w hlen (fun _ _ h => hrow.ext h) (fun _ _ o h => h.alloc o)
  (fun i h w1 _ hI=>(hcall i h w1 hI).mono fun _ _ h2=>⟨h2.1,hI.trans h2.2,h2.2.kept _⟩) (Ext.refl w)).mono fun _ _ ⟨_,_,hI,he⟩=>⟨he,hI⟩
theorem idx_ent (cap:Value) (a:Option Addr) (c:Nat) (us:List V8) (p:Nat→Bool) (I:Nat→World→Prop) (w:World)
  (hlen:us.length≤140737488351232)
  (hrow:∀i w,I i w→Cells8 w a us)
  (hcall:∀i (h:i<us.length) w1,I i w1→Calls Tryz.prog 171 #[us[i].val,cap] w1 fun e w2=>e= .returned (.bool (p i))∧I (i+1) w2)
  (h0:I 0 w):
  Calls Tryz.prog 181 #[.slice a us.length c,.func (.func 171) #[] #[cap]] w
   (IdxPost us.length p I):=by
 go_enter Tryz.func181,Tryz.ntmps181
 go_wp2
 go_loopw [4,5,8] (fun r j i wr=>∃k:Nat,k≤us.length∧i= .int .i64 k∧(∀m,m<k→p m=false)∧I k wr) (fun _ _ i _=>us.length - (intOf i).toNat)
 case atStart=>exact⟨0,Nat.zero_le _,rfl,fun m hm=>absurd hm (Nat.not_lt_zero _),h0⟩
 case round=>
  obtain⟨k,hk,rfl,hp,hI⟩:=hrel;by_cases hlt:k<us.length
  ·obtain ⟨b, off, rfl, g0, g1, g2, g3, g4, g5, g6, g7⟩ := hrow k wr hI k hlt; have hc0 := hcall k hlt wr hI; cases hpk : p k
   ·rw [hpk] at hc0; clear hcall hrow; have HP := hHd hpk; clear hpk; go_wp2_with ((with_reducible refine hc0.mono ?_); rintro e w2 ⟨rfl, hI2⟩)
    go_roundw
    case rel=>exact⟨k+1,by omega,by go_num,fun m hm=>by
     by_cases e:m=k
     ·subst e;exact HP.out
     ·exact hp m (by omega),hI2⟩
    case measure=>simp [intOf];omega
   ·rw [hpk] at hc0; clear hcall hrow; have HP := hHd hpk; clear hpk; have HP0 := hHd hp; clear hp; go_wp2_with ((with_reducible refine hc0.mono ?_); rintro e w2 ⟨rfl, hI2⟩)
    go_ret;exact .inl ⟨k,hlt,HP.out,HP0.out,rfl,hI2⟩
  ·have hk' : k = us.length := by omega
   subst hk';have HP0:=hHd hp;clear hp;clear hcall hrow;go_wp2
   go_ret;exact .inr ⟨HP0.out,rfl,hI⟩
theorem cont_ent (cap:Value) (a:Option Addr) (c:Nat) (us:List V8) (p:Nat→Bool) (I:Nat→World→Prop) (w:World)
  (hlen:us.length≤140737488351232)
  (hrow:∀i w,I i w→Cells8 w a us)
  (hcall:∀i (h:i<us.length) w1,I i w1→Calls Tryz.prog 171 #[us[i].val,cap] w1 fun e w2=>e= .returned (.bool (p i))∧I (i+1) w2)
  (h0:I 0 w):
  Calls Tryz.prog 170 #[.slice a us.length c,.func (.func 171) #[] #[cap]] w
   (ContPost us.length p I):=by
 have hi:=idx_ent cap a c us p I w hlen hrow hcall h0;clear hrow hcall h0;go_enter Tryz.func170,Tryz.ntmps170
 go_wp2_with ((with_reducible refine hi.mono ?_);rintro e w2 (⟨i,hi1,hi2,hi3,rfl,hi5⟩|⟨hi3,rfl,hi5⟩))
 ·have H2 := hHd hi2; clear hi2; have H3 := hHd hi3; clear hi3; go_wp2
  go_ret;exact ContPost.yes hi1 H2.out (by simp) hi5
 ·have H3 := hHd hi3; clear hi3; go_wp2
  go_ret;exact ContPost.no H3.out (by simp) hi5
theorem alls_ent (F:FuncId) (hF:FnOK F) (first caps:Array Value) (B:Nat) (x:V8) (r:Bool) (R:World→Prop) (w:World)
  (hcap:w.cell? ⟨B,0,none⟩=some (.func (.func F) first caps))
  (hcall:Calls Tryz.prog F (first.push x.val++caps) (w.alloc (.cells #[x.c0,x.c1,x.c2,x.c3,x.c4,x.c5,x.c6,x.c7] 125)) fun e w2=>e= .returned (.bool r)∧R w2):
  Calls Tryz.prog 171 #[x.val,.pointer (some ⟨B,0,none⟩)] w fun e w2=>e= .returned (.bool (!r))∧R w2:=by
 unfold FnOK at hF;have hB:B<w.heap.size:=lt_of_cell hcap;go_enter Tryz.func171,Tryz.ntmps171
 go_wp2_with ((with_reducible refine hcall.mono ?_);rintro e w2 ⟨rfl,hR⟩)
 go_ret;exact⟨rfl,hR⟩
theorem all_ent (F:FuncId) (hF:FnOK F) (first caps:Array Value) (a:Option Addr) (c:Nat) (us:List V8) (q:Nat→Bool) (I:Nat→World→Prop) (w:World)
  (hlen:us.length≤140737488351232)
  (hrow:∀i w,I i w→Cells8 w a us)
  (hal:∀i w o,I i w→I i (w.alloc o))
  (hcall:∀i (h:i<us.length) w1,w.heap.size≤w1.heap.size→I i w1→Calls Tryz.prog F (first.push us[i].val++caps) w1 fun e w2=>e= .returned (.bool (q i))∧I (i+1) w2∧Kept w.heap.size w1 w2)
  (h0:I 0 w):
  Calls Tryz.prog 137 #[.slice a us.length c,.func (.func F) first caps] w
   (AllPost us.length q I):=by
 have hi:=cont_ent (.pointer (some ⟨w.heap.size,0,none⟩)) a c us (fun i=> !q i) (AllInv w (.func (.func F) first caps) I) (w.alloc (.cells #[.func (.func F) first caps] 219)) hlen
  (fun i w1 h=>hrow i w1 h.inv)
  (fun i h w1 hI=>alls_ent F hF first caps w.heap.size us[i] (q i) _ w1 hI.cell ((hcall i h (w1.alloc (.cells #[us[i].c0,us[i].c1,us[i].c2,us[i].c3,us[i].c4,us[i].c5,us[i].c6,us[i].c7] 125)) (Nat.le_trans (Nat.le_of_lt hI.size) ((Ext.refl w1).alloc (.cells #[us[i].c0,us[i].c1,us[i].c2,us[i].c3,us[i].c4,us[i].c5,us[i].c6,us[i].c7] 125)).size) (hal _ _ _ hI.inv)).mono fun e w3 h3=>⟨h3.1,AllInv.next hI ((Ext.refl w1).alloc (.cells #[us[i].c0,us[i].c1,us[i].c2,us[i].c3,us[i].c4,us[i].c5,us[i].c6,us[i].c7] 125)) h3.2.1 h3.2.2⟩))
  ⟨by simp,by simp,hal _ _ _ h0⟩
 clear hrow hcall h0 hal;go_enter Tryz.func137,Tryz.ntmps137
 go_wp2_with ((with_reducible refine hi.mono ?_);rintro e w2 ⟨i,hi1,hi2,rfl⟩)
 go_ret;exact⟨i,hi1,hi2.inv,ret_bool (by simp [allB,anyB,List.not_all_eq_any_not])⟩
theorem allx_ent (F:FuncId) (hF:FnOK F) (first caps:Array Value) (a:Option Addr) (c:Nat) (us:List V8) (q:Nat→Bool) (w:World)
  (hlen:us.length≤140737488351232) (hrow:Cells8 w a us)
  (hcall:∀i (h:i<us.length) w1,Ext w w1→Calls Tryz.prog F (first.push us[i].val++caps) w1 fun e w2=>e= .returned (.bool (q i))∧Ext w1 w2):
  Calls Tryz.prog 137 #[.slice a us.length c,.func (.func F) first caps] w fun e w'=>e= .returned (.bool (allB us.length q))∧Ext w w':=
 (all_ent F hF first caps a c us q (fun _ w' => Ext w w') w hlen (fun _ _ h => hrow.ext h) (fun _ _ o h => h.alloc o)
  (fun i h w1 _ hI=>(hcall i h w1 hI).mono fun _ _ h2=>⟨h2.1,hI.trans h2.2,h2.2.kept _⟩) (Ext.refl w)).mono fun _ _ ⟨_,_,hI,he⟩=>⟨he,hI⟩
end Go.Proofs.YtegkdnfeceomdaaGreat
namespace Go.Hs
open Go.RowKit
attribute [local irreducible] World.setCell World.alloc
set_option linter.unusedVariables false
theorem hHid {p:Prop} (h:p):Hid p:=h
abbrev Bz2 (w:World) (b:Nat) (v0 v1:Value):Prop:=w.cell? ⟨b,0,none⟩=some v0∧w.cell? ⟨b,1,none⟩=some v1
abbrev Bz3 (w:World) (b:Nat) (v0 v1 v2:Value):Prop:=w.cell? ⟨b,0,none⟩=some v0∧w.cell? ⟨b,1,none⟩=some v1∧w.cell? ⟨b,2,none⟩=some v2
abbrev Bz4 (w:World) (b:Nat) (v0 v1 v2 v3:Value):Prop:=w.cell? ⟨b,0,none⟩=some v0∧w.cell? ⟨b,1,none⟩=some v1∧w.cell? ⟨b,2,none⟩=some v2∧w.cell? ⟨b,3,none⟩=some v3
abbrev Bz8 (w:World) (b:Nat) (v0 v1 v2 v3 v4 v5 v6 v7:Value):Prop:=w.cell? ⟨b,0,none⟩=some v0∧w.cell? ⟨b,1,none⟩=some v1∧w.cell? ⟨b,2,none⟩=some v2∧w.cell? ⟨b,3,none⟩=some v3∧w.cell? ⟨b,4,none⟩=some v4∧w.cell? ⟨b,5,none⟩=some v5∧w.cell? ⟨b,6,none⟩=some v6∧w.cell? ⟨b,7,none⟩=some v7
abbrev Bz11 (w:World) (b:Nat) (v0 v1 v2 v3 v4 v5 v6 v7 v8 v9 v10:Value):Prop:=w.cell? ⟨b,0,none⟩=some v0∧w.cell? ⟨b,1,none⟩=some v1∧w.cell? ⟨b,2,none⟩=some v2∧w.cell? ⟨b,3,none⟩=some v3∧w.cell? ⟨b,4,none⟩=some v4∧w.cell? ⟨b,5,none⟩=some v5∧w.cell? ⟨b,6,none⟩=some v6∧w.cell? ⟨b,7,none⟩=some v7∧w.cell? ⟨b,8,none⟩=some v8∧w.cell? ⟨b,9,none⟩=some v9∧w.cell? ⟨b,10,none⟩=some v10
abbrev Bp2 (w:World) (b:Nat) (v0 v1:Value) (R:Prop):Prop:=w.cell? ⟨b,0,none⟩=some v0∧w.cell? ⟨b,1,none⟩=some v1∧R
abbrev Bp3 (w:World) (b:Nat) (v0 v1 v2:Value) (R:Prop):Prop:=w.cell? ⟨b,0,none⟩=some v0∧w.cell? ⟨b,1,none⟩=some v1∧w.cell? ⟨b,2,none⟩=some v2∧R
abbrev Bp4 (w:World) (b:Nat) (v0 v1 v2 v3:Value) (R:Prop):Prop:=w.cell? ⟨b,0,none⟩=some v0∧w.cell? ⟨b,1,none⟩=some v1∧w.cell? ⟨b,2,none⟩=some v2∧w.cell? ⟨b,3,none⟩=some v3∧R
abbrev Bp11 (w:World) (b:Nat) (v0 v1 v2 v3 v4 v5 v6 v7 v8 v9 v10:Value) (R:Prop):Prop:=w.cell? ⟨b,0,none⟩=some v0∧w.cell? ⟨b,1,none⟩=some v1∧w.cell? ⟨b,2,none⟩=some v2∧w.cell? ⟨b,3,none⟩=some v3∧w.cell? ⟨b,4,none⟩=some v4∧w.cell? ⟨b,5,none⟩=some v5∧w.cell? ⟨b,6,none⟩=some v6∧w.cell? ⟨b,7,none⟩=some v7∧w.cell? ⟨b,8,none⟩=some v8∧w.cell? ⟨b,9,none⟩=some v9∧w.cell? ⟨b,10,none⟩=some v10∧R
theorem bx11 (w:World) (t:TypeId) (v0 v1 v2 v3 v4 v5 v6 v7 v8 v9 v10:Value):∃W,w.alloc (.cells #[v0,v1,v2,v3,v4,v5,v6,v7,v8,v9,v10] t)=W∧Ext w W∧Hid (∀w',Ext W w'→Bz11 w' w.heap.size v0 v1 v2 v3 v4 v5 v6 v7 v8 v9 v10∧Ext W w')∧Hid (∀w',Ext W w'→∀o,w'.frozen? ⟨w.heap.size,o,none⟩=false)∧w.heap.size+1≤W.heap.size:=by
 obtain⟨W,hW⟩:∃W,W=w.alloc (.cells #[v0,v1,v2,v3,v4,v5,v6,v7,v8,v9,v10] t):=⟨_,rfl⟩;refine⟨W,hW.symm,by subst hW;exact EX,hHid (fun w' hx=>⟨by subst hW;and_intros<;>exact hx.keep (by simp [go_sem]),hx⟩),hHid (fun w' hx o=>(hx.frozen (by subst hW;simp)).trans (by subst hW;simp [go_sem])),by subst hW;simp⟩
theorem bx4 (w:World) (t:TypeId) (v0 v1 v2 v3:Value):∃W,w.alloc (.cells #[v0,v1,v2,v3] t)=W∧Ext w W∧Hid (∀w',Ext W w'→Bz4 w' w.heap.size v0 v1 v2 v3∧Ext W w')∧Hid (∀w',Ext W w'→∀o,w'.frozen? ⟨w.heap.size,o,none⟩=false)∧w.heap.size+1≤W.heap.size:=by
 obtain⟨W,hW⟩:∃W,W=w.alloc (.cells #[v0,v1,v2,v3] t):=⟨_,rfl⟩;refine⟨W,hW.symm,by subst hW;exact EX,hHid (fun w' hx=>⟨by subst hW;and_intros<;>exact hx.keep (by simp [go_sem]),hx⟩),hHid (fun w' hx o=>(hx.frozen (by subst hW;simp)).trans (by subst hW;simp [go_sem])),by subst hW;simp⟩
theorem bx11_4 (w:World) (t:TypeId) (v0 v1 v2 v3 v4 v5 v6 v7 v8 v9 v10:Value) (s:TypeId) (u0 u1 u2 u3:Value):∃W,(w.alloc (.cells #[v0,v1,v2,v3,v4,v5,v6,v7,v8,v9,v10] t)).alloc (.cells #[u0,u1,u2,u3] s)=W∧Ext w W∧Hid (∀w',Ext W w'→Bp11 w' w.heap.size v0 v1 v2 v3 v4 v5 v6 v7 v8 v9 v10 (Bz4 w' (w.heap.size+1) u0 u1 u2 u3)∧Ext W w')∧Hid (∀w',Ext W w'→∀o,w'.frozen? ⟨w.heap.size+1,o,none⟩=false)∧w.heap.size+1+1≤W.heap.size:=by
 obtain⟨W,hW⟩:∃W,W=(w.alloc (.cells #[v0,v1,v2,v3,v4,v5,v6,v7,v8,v9,v10] t)).alloc (.cells #[u0,u1,u2,u3] s):=⟨_,rfl⟩;refine⟨W,hW.symm,by subst hW;exact EX,hHid (fun w' hx=>⟨by subst hW;and_intros<;>exact hx.keep (by simp [go_sem]),hx⟩),hHid (fun w' hx o=>(hx.frozen (by subst hW;simp)).trans (by subst hW;simp [go_sem])),by subst hW;simp⟩
theorem bx4_2 (w:World) (t:TypeId) (v0 v1 v2 v3:Value) (s:TypeId) (u0 u1:Value):∃W,(w.alloc (.cells #[v0,v1,v2,v3] t)).alloc (.cells #[u0,u1] s)=W∧Ext w W∧Hid (∀w',Ext W w'→Bp4 w' w.heap.size v0 v1 v2 v3 (Bz2 w' (w.heap.size+1) u0 u1)∧Ext W w')∧Hid (∀w',Ext W w'→∀o,w'.frozen? ⟨w.heap.size+1,o,none⟩=false)∧w.heap.size+1+1≤W.heap.size:=by
 obtain⟨W,hW⟩:∃W,W=(w.alloc (.cells #[v0,v1,v2,v3] t)).alloc (.cells #[u0,u1] s):=⟨_,rfl⟩;refine⟨W,hW.symm,by subst hW;exact EX,hHid (fun w' hx=>⟨by subst hW;and_intros<;>exact hx.keep (by simp [go_sem]),hx⟩),hHid (fun w' hx o=>(hx.frozen (by subst hW;simp)).trans (by subst hW;simp [go_sem])),by subst hW;simp⟩
theorem bx4_8 (w:World) (t:TypeId) (v0 v1 v2 v3:Value) (s:TypeId) (u0 u1 u2 u3 u4 u5 u6 u7:Value):∃W,(w.alloc (.cells #[v0,v1,v2,v3] t)).alloc (.cells #[u0,u1,u2,u3,u4,u5,u6,u7] s)=W∧Ext w W∧Hid (∀w',Ext W w'→Bp4 w' w.heap.size v0 v1 v2 v3 (Bz8 w' (w.heap.size+1) u0 u1 u2 u3 u4 u5 u6 u7)∧Ext W w')∧Hid (∀w',Ext W w'→∀o,w'.frozen? ⟨w.heap.size+1,o,none⟩=false)∧w.heap.size+1+1≤W.heap.size:=by
 obtain⟨W,hW⟩:∃W,W=(w.alloc (.cells #[v0,v1,v2,v3] t)).alloc (.cells #[u0,u1,u2,u3,u4,u5,u6,u7] s):=⟨_,rfl⟩;refine⟨W,hW.symm,by subst hW;exact EX,hHid (fun w' hx=>⟨by subst hW;and_intros<;>exact hx.keep (by simp [go_sem]),hx⟩),hHid (fun w' hx o=>(hx.frozen (by subst hW;simp)).trans (by subst hW;simp [go_sem])),by subst hW;simp⟩
theorem bx4_4 (w:World) (t:TypeId) (v0 v1 v2 v3:Value) (s:TypeId) (u0 u1 u2 u3:Value):∃W,(w.alloc (.cells #[v0,v1,v2,v3] t)).alloc (.cells #[u0,u1,u2,u3] s)=W∧Ext w W∧Hid (∀w',Ext W w'→Bp4 w' w.heap.size v0 v1 v2 v3 (Bz4 w' (w.heap.size+1) u0 u1 u2 u3)∧Ext W w')∧Hid (∀w',Ext W w'→∀o,w'.frozen? ⟨w.heap.size+1,o,none⟩=false)∧w.heap.size+1+1≤W.heap.size:=by
 obtain⟨W,hW⟩:∃W,W=(w.alloc (.cells #[v0,v1,v2,v3] t)).alloc (.cells #[u0,u1,u2,u3] s):=⟨_,rfl⟩;refine⟨W,hW.symm,by subst hW;exact EX,hHid (fun w' hx=>⟨by subst hW;and_intros<;>exact hx.keep (by simp [go_sem]),hx⟩),hHid (fun w' hx o=>(hx.frozen (by subst hW;simp)).trans (by subst hW;simp [go_sem])),by subst hW;simp⟩
theorem bx2_2 (w:World) (t:TypeId) (v0 v1:Value) (s:TypeId) (u0 u1:Value):∃W,(w.alloc (.cells #[v0,v1] t)).alloc (.cells #[u0,u1] s)=W∧Ext w W∧Hid (∀w',Ext W w'→Bp2 w' w.heap.size v0 v1 (Bz2 w' (w.heap.size+1) u0 u1)∧Ext W w')∧Hid (∀w',Ext W w'→∀o,w'.frozen? ⟨w.heap.size+1,o,none⟩=false)∧w.heap.size+1+1≤W.heap.size:=by
 obtain⟨W,hW⟩:∃W,W=(w.alloc (.cells #[v0,v1] t)).alloc (.cells #[u0,u1] s):=⟨_,rfl⟩;refine⟨W,hW.symm,by subst hW;exact EX,hHid (fun w' hx=>⟨by subst hW;and_intros<;>exact hx.keep (by simp [go_sem]),hx⟩),hHid (fun w' hx o=>(hx.frozen (by subst hW;simp)).trans (by subst hW;simp [go_sem])),by subst hW;simp⟩
theorem bx4_3 (w:World) (t:TypeId) (v0 v1 v2 v3:Value) (s:TypeId) (u0 u1 u2:Value):∃W,(w.alloc (.cells #[v0,v1,v2,v3] t)).alloc (.cells #[u0,u1,u2] s)=W∧Ext w W∧Hid (∀w',Ext W w'→Bp4 w' w.heap.size v0 v1 v2 v3 (Bz3 w' (w.heap.size+1) u0 u1 u2)∧Ext W w')∧Hid (∀w',Ext W w'→∀o,w'.frozen? ⟨w.heap.size+1,o,none⟩=false)∧w.heap.size+1+1≤W.heap.size:=by
 obtain⟨W,hW⟩:∃W,W=(w.alloc (.cells #[v0,v1,v2,v3] t)).alloc (.cells #[u0,u1,u2] s):=⟨_,rfl⟩;refine⟨W,hW.symm,by subst hW;exact EX,hHid (fun w' hx=>⟨by subst hW;and_intros<;>exact hx.keep (by simp [go_sem]),hx⟩),hHid (fun w' hx o=>(hx.frozen (by subst hW;simp)).trans (by subst hW;simp [go_sem])),by subst hW;simp⟩
theorem bx3_4 (w:World) (t:TypeId) (v0 v1 v2:Value) (s:TypeId) (u0 u1 u2 u3:Value):∃W,(w.alloc (.cells #[v0,v1,v2] t)).alloc (.cells #[u0,u1,u2,u3] s)=W∧Ext w W∧Hid (∀w',Ext W w'→Bp3 w' w.heap.size v0 v1 v2 (Bz4 w' (w.heap.size+1) u0 u1 u2 u3)∧Ext W w')∧Hid (∀w',Ext W w'→∀o,w'.frozen? ⟨w.heap.size+1,o,none⟩=false)∧w.heap.size+1+1≤W.heap.size:=by
 obtain⟨W,hW⟩:∃W,W=(w.alloc (.cells #[v0,v1,v2] t)).alloc (.cells #[u0,u1,u2,u3] s):=⟨_,rfl⟩;refine⟨W,hW.symm,by subst hW;exact EX,hHid (fun w' hx=>⟨by subst hW;and_intros<;>exact hx.keep (by simp [go_sem]),hx⟩),hHid (fun w' hx o=>(hx.frozen (by subst hW;simp)).trans (by subst hW;simp [go_sem])),by subst hW;simp⟩
end Go.Hs
namespace Go.Hs
open Go.RowKit
def rngC (r:Int×Int):List Value:= [.int .i64 r.1,.int .i64 r.2]
theorem rngC_len (r:Int×Int):(rngC r).length=2:=rfl
end Go.Hs
namespace Go.Proofs.YtegkdnfeceomdaaGreat
open Go.RowKit Go.Hs
attribute [local irreducible] World.setCell World.alloc
theorem info_prange:(Tryz.prog.info? 123).map (fun i=>(i.zero,i.size,i.bytes))=some (some (.agg #[.int .i64 0,.int .i64 0]),2,16):=by kernel_rfl
theorem pmin_i64 {x y z:Int} (h:z=if y<x then y else x) (ats:Array TypeId) (ty:TypeId) (w:World):(Builtin.min_ ats ty #[.int .i64 x,.int .i64 y]).run Tryz.prog w= .ok (.int .i64 z) w:=by
 subst h;rfl
theorem smin2_p (x y z:Int) (hz:z=if y<x then y else x) (b:Nat) (w:World) (h0:w.cell? ⟨b,0,none⟩=some (.int .i64 x)) (h1:w.cell? ⟨b,1,none⟩=some (.int .i64 y)) (c:Nat) (_:2≤c):
  Calls Tryz.prog 144 #[.slice (some ⟨b,0,none⟩) 2 c] w fun e w'=>e= .returned (.int .i64 z)∧Ext w w':=by
 have hm:∀w,(Builtin.min_ #[3,3] 3 #[.int .i64 x,.int .i64 y]).run Tryz.prog w= .ok (.int .i64 z) w:=fun w=>pmin_i64 hz _ _ _
 clear hz;go_enter Tryz.func144,Tryz.ntmps144
 (go_wp2_with fail);go_loopw [3,4] (fun s3 s4 wr=>((s4= .int .i64 1∧s3= .int .i64 x)∨(s4= .int .i64 2∧s3= .int .i64 z))∧wr=w) (fun _ s _=>2 - (intOf s).toNat)
 case atStart=>exact⟨.inl ⟨rfl,rfl⟩,rfl⟩
 case round=>
  obtain⟨h4,hww⟩:=hrel;subst hww;rcases h4 with ⟨rfl,rfl⟩|⟨rfl,rfl⟩
  ·(go_wp2_with fail); go_roundw
   case rel=>exact⟨.inr ⟨rfl,rfl⟩,trivial⟩
   case measure=>simp [intOf]
  ·(go_wp2_with fail);go_ret;exact⟨rfl,Ext.refl _⟩
theorem min2_p (x y z:Int) (hz:z=if y<x then y else x) (b:Nat) (w:World) (h0:w.cell? ⟨b,0,none⟩=some (.int .i64 x)) (h1:w.cell? ⟨b,1,none⟩=some (.int .i64 y)) (c:Nat) (hc:2≤c):
  Calls Tryz.prog 139 #[.slice (some ⟨b,0,none⟩) 2 c] w fun e w'=>e= .returned (.int .i64 z)∧Ext w w':=by
 have HS:=hHd (smin2_p x y z hz b w h0 h1 c hc);clear h0 h1 hz;go_enter Tryz.func139,Tryz.ntmps139
 (go_wp2_with fail);(refine HS.out.mono ?_)
 rintro e w1 ⟨rfl,hx⟩;(go_wp2_with fail);go_ret;exact⟨rfl,hx⟩
theorem min2_d (x y z:Int) (hz:z=if y<x then y else x) (b:Nat) (w:World) (h0:w.cell? ⟨b,0,none⟩=some (.int .i64 x)) (h1:w.cell? ⟨b,1,none⟩=some (.int .i64 y)) (c:Nat) (hc:2≤c):
  Calls Tryz.prog 86 #[.slice (some ⟨b,0,none⟩) 2 c] w fun e w'=>e= .returned (.int .i64 z)∧Ext w w':=by
 have HS:=hHd (smin2_p x y z hz b w h0 h1 c hc);clear h0 h1 hz;go_enter Tryz.func86,Tryz.ntmps86
 (go_wp2_with fail);(refine HS.out.mono ?_)
 rintro e w1 ⟨rfl,hx⟩;(go_wp2_with fail);go_ret;exact⟨rfl,hx⟩
theorem ranges_p (b:Bk) (v:Value) (w:World) (hv:BkV w v b):
  Calls Tryz.prog 138 #[v] w fun e w'=>∃a q,e= .returned (.slice a (rngsB b).length q)∧Hs.Own 2 rngC w.heap.size 123 w' (.slice a (rngsB b).length q) (rngsB b)∧Ext w w':=by
 obtain⟨a1,c1,a2,c2,rfl,hp,he,hp1,he1,hp2,he2⟩:=hv.open;obtain⟨i1,hi1,hz10,hz11,hz12⟩:=info_parts info_prange;have HP:Hid (∀W,Ext w W→Cells4 W a1 (b.pars.map Par.c)):=hHd (fun W hx=>hp.ext hx);have HC:Hid (∀W,Ext w W→Cells8 W a2 (b.ents.map Ent.c)):=hHd (fun W hx=>he.ext hx);have HR:Hid (rngsB b=b.ents.map (fun e=>(e.dlo,e.dhi))++b.pars.map (fun p=>(p.slo,p.shi))):=rfl;generalize rngsB b=rs at*;clear hv hp he;unfold bkV;generalize b.last=last at*;generalize b.owners=owners at*;generalize b.pars=ps at*;generalize b.ents=es at*;go_enter Tryz.func138,Tryz.ntmps138
 (go_wp2_with fail);obtain⟨W,hW,X,HS,HSf,HSz⟩:=bx4 w 52 (.int .i64 last) (.int .i64 owners) (.slice a1 ps.length c1) (.slice a2 es.length c2);rw [hW];clear hW;go_loopw [2,10] (fun s2 s10 wr=>∃(k m:Nat) (a5:Option Addr) (q5:Nat),k≤es.length∧m=0+k∧s10= .int .i64 k∧s2= .slice a5 m q5∧Hid (Hs.Own 2 rngC W.heap.size 123 wr (.slice a5 m q5) ([]++(es.take k).map (fun e:Ent=>(e.dlo,e.dhi))))∧Ext W wr) (fun _ s _=>es.length - (intOf s).toNat)
 case atStart=>exact⟨0,0,none,0,Nat.zero_le _,rfl,rfl,rfl,hHd (Hs.Own.nil _),Ext.refl _⟩
 case round =>
  obtain⟨k,m,a5,q5,hk,hm,rfl,rfl,HO,hx⟩:=hrel;obtain⟨wo,rfl⟩:∃x,x=wr:=⟨_,rfl⟩;obtain⟨⟨q0,q1,q2,q3⟩,-⟩:=HS.out wo hx;by_cases hlt:k<es.length
  ·obtain ⟨b', off, rfl, hce⟩ := HC.out wo (X.trans hx) k (by simpa using hlt); have e1 : (es.map Ent.c)[k]'(by simpa using hlt) = (es[k]).c := by simp
   rw [e1] at hce;have HT:Hid ([]++(es.take (k+1)).map (fun e:Ent=>(e.dlo,e.dhi))=([]++(es.take k).map (fun e:Ent=>(e.dlo,e.dhi)))++ [(fun e:Ent=>(e.dlo,e.dhi)) es[k]]):=hHd (by rw [List.take_succ_eq_append_getElem hlt,List.map_append,List.append_assoc];rfl);have HL:Hid (([]++(es.take k).map (fun e:Ent=>(e.dlo,e.dhi))).length=0+k):=hHd (by simp;omega);generalize []++(es.take k).map (fun e:Ent=>(e.dlo,e.dhi))=l0 at*;generalize hl1: []++(es.take (k+1)).map (fun e:Ent=>(e.dlo,e.dhi))=l1 at*;have HL1:=hHd hl1;clear hl1;generalize es[k]=en at*;obtain⟨kd,pa,ot,fr,tt,pt,dl,dh⟩:=en;obtain⟨m0,m1,m2,m3,m4,m5,m6,m7⟩:=hce;simp only [Ent.c] at m0 m1 m2 m3 m4 m5 m6 m7 HT;clear e1;have hk0:(0:Int)≤(k:Int):=by omega
   have hk1:(k:Int)<(es.length:Int):=by omega
   have hsz:W.heap.size≤wo.heap.size:=hx.size
   have HOW:Hid (∀w',Ext wo w'→w'.ownsRow W.heap.size 123 2 (.slice a5 m q5) m (l0.flatMap rngC)):=hHd (fun w' h=>by
    have:=Hs.Own.ext HO.out h;unfold Hs.Own at this;rw [HL.out,←hm] at this;exact this)
   have HM:=hHd hm;clear hm;go_wp2_with (at_builtin;refine wpList_append_own_at _ rfl _ _ 222 rfl W.heap.size 123 i1 (.agg #[.int .i64 0,.int .i64 0]) 2 16 Tryz.underlying222 hi1 hz10 hz11 hz12 rfl (by decide) (.slice a5 m q5) m (l0.flatMap rngC) rfl ?own ⟨wo.heap.size+1,0,none⟩ 1 1 [.int .i64 dl,.int .i64 dh] rfl rfl (cells_two (Ext.refl _) (by simp)) ?one ?f1 ?f2 ?f3 ?next)
   case own=>exact HOW.out _ EX
   case one=>intro u hu;simp only [List.mem_cons,List.not_mem_nil,or_false] at hu;rcases hu with rfl|rfl<;>rfl
   case f1=>have:=HM.out;simp only [maxLen];omega
   case f2=>have:=HM.out;omega
   case f3=>simp;omega
   case next=>
    intro v' w7 hown hgrow hnil hat
    have hx7:Ext W w7:=grown_ext (hx.trans EX) hgrow (fun g hg=>(own_lt (HOW.out wo (Ext.refl _)) hg).1);have HUR:Hid (Hs.Own 2 rngC W.heap.size 123 w7 v' ([]++(es.take (k+1)).map (fun e:Ent=>(e.dlo,e.dhi)))):=hHd (by rw [HL1.out,HT.out];exact Hs.Own.next hown (by rw [HL.out];have:=HM.out;omega) rfl);clear hnil hat hgrow;rcases own_open hown with ⟨-,h0⟩|⟨g',cap,rfl,-,-,-,-⟩
    ·omega
    ·clear hown; have hm' := HM.out; (go_wp2_with fail); go_roundw
     case rel=>exact⟨k+1,m+1,_,_,by omega,by omega,by go_num,rfl,HUR,hx7⟩
     case measure=>simp [intOf];omega
  ·obtain rfl : k = es.length := by omega
   have HO2:=HO.out;rw [List.nil_append,List.take_length] at HO2;have HM2:m=es.length:=by omega
   have HOQ:=hHd HO2;clear HO2 HO hm;(go_wp2_with fail);go_loopw [2,23] (fun s2 s23 wr=>∃(k m:Nat) (a5:Option Addr) (q5:Nat),k≤ps.length∧m=es.length+k∧s23= .int .i64 k∧s2= .slice a5 m q5∧Hid (Hs.Own 2 rngC W.heap.size 123 wr (.slice a5 m q5) (es.map (fun e:Ent=>(e.dlo,e.dhi))++(ps.take k).map (fun p:Par=>(p.slo,p.shi))))∧Ext W wr) (fun _ s _=>ps.length - (intOf s).toNat)
   case atStart=>exact⟨0,m,a5,q5,Nat.zero_le _,by omega,rfl,rfl,hHd (by rw [List.take_zero,List.map_nil,List.append_nil];exact HOQ.out),hx⟩
   case round=>
    obtain⟨k,m,a5,q5,hk,hm,rfl,rfl,HO,hx⟩:=hrel;obtain⟨wo,rfl⟩:∃x,x=wr:=⟨_,rfl⟩;obtain⟨⟨q0,q1,q2,q3⟩,-⟩:=HS.out wo hx;by_cases hlt:k<ps.length
    ·obtain ⟨b', off, rfl, hce⟩ := HP.out wo (X.trans hx) k (by simpa using hlt); have e1 : (ps.map Par.c)[k]'(by simpa using hlt) = (ps[k]).c := by simp
     rw [e1] at hce;have HT:Hid (es.map (fun e:Ent=>(e.dlo,e.dhi))++(ps.take (k+1)).map (fun p:Par=>(p.slo,p.shi))=(es.map (fun e:Ent=>(e.dlo,e.dhi))++(ps.take k).map (fun p:Par=>(p.slo,p.shi)))++ [(fun p:Par=>(p.slo,p.shi)) ps[k]]):=hHd (by rw [List.take_succ_eq_append_getElem hlt,List.map_append,List.append_assoc];rfl);have HL:Hid ((es.map (fun e:Ent=>(e.dlo,e.dhi))++(ps.take k).map (fun p:Par=>(p.slo,p.shi))).length=es.length+k):=hHd (by simp;omega);generalize es.map (fun e:Ent=>(e.dlo,e.dhi))++(ps.take k).map (fun p:Par=>(p.slo,p.shi))=l0 at*;generalize hl1:es.map (fun e:Ent=>(e.dlo,e.dhi))++(ps.take (k+1)).map (fun p:Par=>(p.slo,p.shi))=l1 at*;have HL1:=hHd hl1;clear hl1;generalize ps[k]=en at*;obtain⟨ow,va,dl,dh⟩:=en;obtain⟨m0,m1,m2,m3⟩:=hce;simp only [Par.c] at m0 m1 m2 m3 HT;clear e1;have hk0:(0:Int)≤(k:Int):=by omega
     have hk1:(k:Int)<(ps.length:Int):=by omega
     have hsz:W.heap.size≤wo.heap.size:=hx.size
     have HOW:Hid (∀w',Ext wo w'→w'.ownsRow W.heap.size 123 2 (.slice a5 m q5) m (l0.flatMap rngC)):=hHd (fun w' h=>by
      have:=Hs.Own.ext HO.out h;unfold Hs.Own at this;rw [HL.out,←hm] at this;exact this)
     have HM:=hHd hm;clear hm;go_wp2_with (at_builtin;refine wpList_append_own_at _ rfl _ _ 222 rfl W.heap.size 123 i1 (.agg #[.int .i64 0,.int .i64 0]) 2 16 Tryz.underlying222 hi1 hz10 hz11 hz12 rfl (by decide) (.slice a5 m q5) m (l0.flatMap rngC) rfl ?own ⟨wo.heap.size+1,0,none⟩ 1 1 [.int .i64 dl,.int .i64 dh] rfl rfl (cells_two (Ext.refl _) (by simp)) ?one ?f1 ?f2 ?f3 ?next)
     case own=>exact HOW.out _ EX
     case one=>intro u hu;simp only [List.mem_cons,List.not_mem_nil,or_false] at hu;rcases hu with rfl|rfl<;>rfl
     case f1=>have:=HM.out;simp only [maxLen];omega
     case f2=>have:=HM.out;omega
     case f3=>simp;omega
     case next=>
      intro v' w7 hown hgrow hnil hat
      have hx7:Ext W w7:=grown_ext (hx.trans EX) hgrow (fun g hg=>(own_lt (HOW.out wo (Ext.refl _)) hg).1);have HUR:Hid (Hs.Own 2 rngC W.heap.size 123 w7 v' (es.map (fun e:Ent=>(e.dlo,e.dhi))++(ps.take (k+1)).map (fun p:Par=>(p.slo,p.shi)))):=hHd (by rw [HL1.out,HT.out];exact Hs.Own.next hown (by rw [HL.out];have:=HM.out;omega) rfl);clear hnil hat hgrow;rcases own_open hown with ⟨-,h0⟩|⟨g',cap,rfl,-,-,-,-⟩
      ·omega
      ·clear hown; have hm' := HM.out; (go_wp2_with fail); go_roundw
       case rel=>exact⟨k+1,m+1,_,_,by omega,by omega,by go_num,rfl,HUR,hx7⟩
       case measure=>simp [intOf];omega
    ·obtain rfl : k = ps.length := by omega
     have HF:Hid (m=rs.length∧Hs.Own 2 rngC W.heap.size 123 wo (.slice a5 m q5) rs):=hHd (by
      have h:=HO.out;rw [List.take_length,←HR.out] at h;exact⟨h.len.1,h⟩)
     have hm':=HF.out.1;clear HO hm;subst hm';(go_wp2_with fail);go_ret;exact⟨_,_,rfl,HF.out.2.base X.size,X.trans hx⟩
end Go.Proofs.YtegkdnfeceomdaaGreat
