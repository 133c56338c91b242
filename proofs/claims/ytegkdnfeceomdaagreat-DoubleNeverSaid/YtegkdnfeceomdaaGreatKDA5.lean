/- Bundled: what the texts JI VN IV JJ say one after another. -/
import Derived.Test.YtegkdnfeceomdaaGreatKDA3
import Derived.Test.YtegkdnfeceomdaaGreatKDA4
import Derived.Test.YtegkdnfeceomdaaGreatKDA1
import Derived.Test.YtegkdnfeceomdaaGreatKDA2
import Derived.Maps.AppendAt
import Derived.Deep.RegionHeld3
import Derived.BigRegion
import Derived.Deep.QuietTactic
set_option maxRecDepth 100000
set_option maxHeartbeats 16000000
set_option linter.unusedSimpArgs false
set_option linter.unusedVariables false
namespace Go.Hs
open Go.RowKit
theorem all_list {α:Type} [Inhabited α] (l:List α) (p:α→Bool):allB l.length (fun i=>p (l.getD i default))=l.all p:=by
 rw [Bool.eq_iff_iff,allB_iff,List.all_eq_true];constructor
 ·intro h x hx
  obtain⟨i,hi,rfl⟩:=List.mem_iff_getElem.1 hx;have:=h i hi;simpa [hi] using this
 ·intro h i hi
  have:=h l[i] (List.getElem_mem hi);simpa [hi] using this
structure BkS (b:Bk):Prop where
 owners:1≤b.owners∧b.owners≤4
 pars:b.pars.length≤4
 ents:b.ents.length≤6
 last:0≤b.last∧b.last≤30
 par:∀p∈b.pars,parB b p=true
 ent:∀e∈b.ents,entB b e=true
theorem daysB_iff {b:Bk} {lo hi:Int} :daysB b lo hi=true↔0≤lo∧lo≤hi∧hi≤b.last:=by
 simp only [daysB,dayB,Bool.and_eq_true,decide_eq_true_eq,inR_iff];omega
theorem rngs_ok {b:Bk} (h:BkS b):∀r∈rngsB b,0≤r.1∧r.1≤r.2∧r.2≤30:=by
 intro r hr
 have hl:=h.last;rcases List.mem_append.1 hr with hr|hr
 ·obtain⟨e,he,rfl⟩:=List.mem_map.1 hr;have:=h.ent e he;simp only [entB,Bool.and_eq_true] at this;have:=daysB_iff.1 this.1.2;simp only;omega
 ·obtain⟨p,hp,rfl⟩:=List.mem_map.1 hr;have:=h.par p hp;simp only [parB,Bool.and_eq_true] at this;have:=daysB_iff.1 this.2.2;simp only;omega
theorem manyL_next (cap:Int) {l:List (Int×Int)} {k:Nat} (h:k<l.length):manyL cap (l.take (k+1))=min (manyL cap (l.take k)*((l[k]).2 - (l[k]).1+1)) (cap+1):=by
 unfold manyL;rw [List.take_succ_eq_append_getElem h,List.foldl_append];rfl
theorem manyL_bd {cap:Int} (hc:0≤cap):∀ {l:List (Int×Int)},(∀r∈l,r.1≤r.2)→1≤manyL cap l∧manyL cap l≤cap+1:=by
  intro l h
  have key:∀(l:List (Int×Int)) (n:Int),(∀r∈l,r.1≤r.2)→1≤n→n≤cap+1→1≤l.foldl (fun n r=>min (n*(r.2 - r.1+1)) (cap+1)) n∧l.foldl (fun n r=>min (n*(r.2 - r.1+1)) (cap+1)) n≤cap+1:=by
    intro l
    induction l with
    |nil=>intro n _ h1 h2;exact⟨h1,h2⟩
    | cons x r ih =>
      intro n h h1 h2
      rw [List.foldl_cons];have hx:=h x (by simp);have:n*1≤n*(x.2 - x.1+1):=Int.mul_le_mul_of_nonneg_left (by omega) (by omega);exact ih _ (fun y hy=>h y (by simp [hy])) (by omega) (by omega)
  exact key l 1 h (by omega) (by omega)
end Go.Hs
namespace Go.Proofs.YtegkdnfeceomdaaGreat
open Go.RowKit Go.Hs
attribute [local irreducible] World.setCell World.alloc
theorem fn_parcel:FnOK 133:=fun args w=>by simp [go_sem]
theorem fn_entry:FnOK 134:=fun args w=>by simp [go_sem]
theorem allpar (b:Bk) (v:Value) (w:World) (hv:BkV w v b) (ho:1≤b.owners∧b.owners≤4) (a:Option Addr) (k:Nat) (hc:Cells4 w a (b.pars.map Par.c)) (hl:b.pars.length≤1000):
  Calls Tryz.prog 136 #[.slice a b.pars.length k,.func (.func 133) #[v] #[]] w fun e w'=>e= .returned (.bool (b.pars.all (parB b)))∧Ext w w':=by
 have h:=allx_par 133 fn_parcel #[v] #[] a k (b.pars.map Par.c) (fun i=>parB b (b.pars.getD i default)) w (by simp;omega) hc
  (fun i hi w1 hx => by
   have hi':i<b.pars.length:=by simpa using hi
   have e1:(b.pars.map Par.c)[i]=(b.pars[i]).c:=by simp
   rw [e1];refine(parcel_p b v b.pars[i] w1 (hv.ext hx) ho).mono ?_
   rintro e w2 ⟨rfl,h2⟩;exact⟨ret_bool (by simp [hi']),h2⟩)
 rw [List.length_map,all_list] at h;exact h
theorem allent (b:Bk) (v:Value) (w:World) (hv:BkV w v b) (ho:1≤b.owners∧b.owners≤4) (a:Option Addr) (k:Nat) (hc:Cells8 w a (b.ents.map Ent.c)) (hl:b.ents.length≤1000):
  Calls Tryz.prog 137 #[.slice a b.ents.length k,.func (.func 134) #[v] #[]] w fun e w'=>e= .returned (.bool (b.ents.all (entB b)))∧Ext w w':=by
 have h:=allx_ent 134 fn_entry #[v] #[] a k (b.ents.map Ent.c) (fun i=>entB b (b.ents.getD i default)) w (by simp;omega) hc
  (fun i hi w1 hx => by
   have hi':i<b.ents.length:=by simpa using hi
   have e1:(b.ents.map Ent.c)[i]=(b.ents[i]).c:=by simp
   rw [e1];refine(entry_p b v b.ents[i] w1 (hv.ext hx) ho).mono ?_
   rintro e w2 ⟨rfl,h2⟩;exact⟨ret_bool (by simp [hi']),h2⟩)
 rw [List.length_map,all_list] at h;exact h
theorem check_p (b : Bk) (v : Value) (w : World) (hv : BkV w v b) :
    Calls Tryz.prog 80 #[v] w fun e w'=>e= .returned (.int .i64 (bookE b))∧Ext w w':=by
  have HE:Hid (bookE b=if 4<b.owners∨4<b.pars.length∨6<b.ents.length then 3 else if inR b.last 0 30&&(decide (1≤b.owners)&&(b.pars.all (parB b)&&b.ents.all (entB b))) then (if 1000<manyL 1000 (rngsB b) then 3 else 0) else 1):=rfl;have HV:=hHd hv;obtain⟨a1,c1,a2,c2,rfl,hp,he,hp1,he1,hp2,he2⟩:=hv.open;have HAP:Hid (1≤b.owners∧b.owners≤4→∀W,Ext w W→Calls Tryz.prog 136 #[.slice a1 b.pars.length c1,.func (.func 133) #[bkV a1 b.pars.length c1 a2 b.ents.length c2 b.last b.owners] #[]] W fun e w'=>e= .returned (.bool (b.pars.all (parB b)))∧Ext W w'):=hHd (fun ho W hx=>allpar b _ W (HV.out.ext hx) ho a1 c1 (hp.ext hx) hp2);have HAE:Hid (1≤b.owners∧b.owners≤4→∀W,Ext w W→Calls Tryz.prog 137 #[.slice a2 b.ents.length c2,.func (.func 134) #[bkV a1 b.pars.length c1 a2 b.ents.length c2 b.last b.owners] #[]] W fun e w'=>e= .returned (.bool (b.ents.all (entB b)))∧Ext W w'):=hHd (fun ho W hx=>allent b _ W (HV.out.ext hx) ho a2 c2 (he.ext hx) he2);have HRN:Hid (∀W,Ext w W→Calls Tryz.prog 138 #[bkV a1 b.pars.length c1 a2 b.ents.length c2 b.last b.owners] W fun e w'=>∃a q,e= .returned (.slice a (rngsB b).length q)∧Hs.Own 2 rngC W.heap.size 123 w' (.slice a (rngsB b).length q) (rngsB b)∧Ext W w'):=hHd (fun W hx=>ranges_p b _ W (HV.out.ext hx));have HOK:Hid (b.owners≤4→b.pars.length≤4→b.ents.length≤6→inR b.last 0 30=true→1≤b.owners→b.pars.all (parB b)=true→b.ents.all (entB b)=true→∀r∈rngsB b,0≤r.1∧r.1≤r.2∧r.2≤30):=hHd (fun h1 h2 h3 h4 h5 h6 h7=>rngs_ok ⟨⟨h5,h1⟩,h2,h3,inR_iff.1 h4,List.all_eq_true.1 h6,List.all_eq_true.1 h7⟩);have HW:=hHd (within_p b.last 0 30);have HLN:Hid ((rngsB b).length=b.ents.length+b.pars.length):=hHd (by simp [rngsB]);clear hv hp he HV;generalize bookE b=r at*;generalize b.pars.all (parB b)=ap at*;generalize b.ents.all (entB b)=ae at*;generalize rngsB b=rs at*
  generalize inR b.last 0 30=il at*;generalize b.pars.length=n1 at*;generalize b.ents.length=n2 at*;generalize b.last=last at*;generalize b.owners=ow at*;unfold bkV at*;by_cases h1:4<ow
  · have d1 : decide ((4 : Int) < ow) = true := decide_eq_true h1; obtain rfl : r = 3 := by rw [HE.out, if_pos (.inl h1)]
    clear HE;go_enter Tryz.func80,Tryz.ntmps80
    (go_wp2_with fail);obtain⟨W0,hW,X,HS,HSf,HSz⟩:=bx4 w 52 (.int .i64 last) (.int .i64 ow) (.slice a1 n1 c1) (.slice a2 n2 c2);rw [hW];clear hW;obtain⟨⟨q0,q1,q2,q3⟩,-⟩:=HS.out W0 (Ext.refl _);clear HS HSf HSz;go_region;have Y:Ext W0 W0.drew:=(Ext.refl W0).drew;replace X:=X.trans Y;replace q0:=Y.keep q0;replace q1:=Y.keep q1;replace q2:=Y.keep q2;replace q3:=Y.keep q3;clear Y;generalize W0.drew=W at*;(go_wp2_with fail);go_ret;exact⟨rfl,EX⟩
  · have d1 : decide ((4 : Int) < ow) = false := decide_eq_false h1; by_cases h2 : 4 < n1
    · have d2 : decide ((4 : Int) < (n1 : Int)) = true := decide_eq_true (by omega); obtain rfl : r = 3 := by rw [HE.out, if_pos (.inr (.inl h2))]
      clear HE;go_enter Tryz.func80,Tryz.ntmps80
      (go_wp2_with fail);obtain⟨W0,hW,X,HS,HSf,HSz⟩:=bx4 w 52 (.int .i64 last) (.int .i64 ow) (.slice a1 n1 c1) (.slice a2 n2 c2);rw [hW];clear hW;obtain⟨⟨q0,q1,q2,q3⟩,-⟩:=HS.out W0 (Ext.refl _);clear HS HSf HSz;go_region;have Y:Ext W0 W0.drew:=(Ext.refl W0).drew;replace X:=X.trans Y;replace q0:=Y.keep q0;replace q1:=Y.keep q1;replace q2:=Y.keep q2;replace q3:=Y.keep q3;clear Y;generalize W0.drew=W at*;(go_wp2_with fail);go_ret;exact⟨rfl,EX⟩
    · have d2 : decide ((4 : Int) < (n1 : Int)) = false := decide_eq_false (by omega); by_cases h3 : 6 < n2
      · have d3 : decide ((6 : Int) < (n2 : Int)) = true := decide_eq_true (by omega); obtain rfl : r = 3 := by rw [HE.out, if_pos (.inr (.inr h3))]
        clear HE;go_enter Tryz.func80,Tryz.ntmps80
        (go_wp2_with fail);obtain⟨W0,hW,X,HS,HSf,HSz⟩:=bx4 w 52 (.int .i64 last) (.int .i64 ow) (.slice a1 n1 c1) (.slice a2 n2 c2);rw [hW];clear hW;obtain⟨⟨q0,q1,q2,q3⟩,-⟩:=HS.out W0 (Ext.refl _);clear HS HSf HSz;go_region;have Y:Ext W0 W0.drew:=(Ext.refl W0).drew;replace X:=X.trans Y;replace q0:=Y.keep q0;replace q1:=Y.keep q1;replace q2:=Y.keep q2;replace q3:=Y.keep q3;clear Y;generalize W0.drew=W at*;(go_wp2_with fail);go_ret;exact⟨rfl,EX⟩
      · have d3 : decide ((6 : Int) < (n2 : Int)) = false := decide_eq_false (by omega); replace HE : Hid (r = if il && (decide (1 ≤ ow) && (ap && ae)) then (if 1000 < manyL 1000 rs then 3 else 0) else 1) := hHd (by rw [HE.out, if_neg (by omega)]); cases il with
        | false =>
          obtain rfl:r=1:=by rw [HE.out];simp
          clear HE;go_enter Tryz.func80,Tryz.ntmps80
          (go_wp2_with fail);obtain⟨W0,hW,X,HS,HSf,HSz⟩:=bx4 w 52 (.int .i64 last) (.int .i64 ow) (.slice a1 n1 c1) (.slice a2 n2 c2);rw [hW];clear hW;obtain⟨⟨q0,q1,q2,q3⟩,-⟩:=HS.out W0 (Ext.refl _);clear HS HSf HSz;go_region;have Y:Ext W0 W0.drew:=(Ext.refl W0).drew;replace X:=X.trans Y;replace q0:=Y.keep q0;replace q1:=Y.keep q1;replace q2:=Y.keep q2;replace q3:=Y.keep q3;clear Y;generalize W0.drew=W at*;(go_wp2_with fail);(with_reducible refine(HW.out _).mono ?_);rintro e w1 ⟨rfl,hx⟩;have hy:Ext W w1:=EX;replace X:=X.trans hy;replace q0:=hy.keep q0;replace q1:=hy.keep q1;replace q2:=hy.keep q2;replace q3:=hy.keep q3;clear hx hy;(go_wp2_with fail);go_ret;exact⟨rfl,EX⟩
        | true =>
          by_cases h5:ow<1
          · have d5 : decide (ow < 1) = true := decide_eq_true h5; obtain rfl : r = 1 := by rw [HE.out]; rw [decide_eq_false (by omega : ¬ 1 ≤ ow)]; rfl
            clear HE;go_enter Tryz.func80,Tryz.ntmps80
            (go_wp2_with fail);obtain⟨W0,hW,X,HS,HSf,HSz⟩:=bx4 w 52 (.int .i64 last) (.int .i64 ow) (.slice a1 n1 c1) (.slice a2 n2 c2);rw [hW];clear hW;obtain⟨⟨q0,q1,q2,q3⟩,-⟩:=HS.out W0 (Ext.refl _);clear HS HSf HSz;go_region;have Y:Ext W0 W0.drew:=(Ext.refl W0).drew;replace X:=X.trans Y;replace q0:=Y.keep q0;replace q1:=Y.keep q1;replace q2:=Y.keep q2;replace q3:=Y.keep q3;clear Y;generalize W0.drew=W at*;(go_wp2_with fail);(with_reducible refine(HW.out _).mono ?_);rintro e w1 ⟨rfl,hx⟩;have hy:Ext W w1:=EX;replace X:=X.trans hy;replace q0:=hy.keep q0;replace q1:=hy.keep q1;replace q2:=hy.keep q2;replace q3:=hy.keep q3;clear hx hy;(go_wp2_with fail);go_ret;exact⟨rfl,EX⟩
          · have d5 : decide (ow < 1) = false := decide_eq_false h5; have ho4 : 1 ≤ ow ∧ ow ≤ 4 := ⟨by omega, by omega⟩; cases ap with
            | false =>
              obtain rfl:r=1:=by rw [HE.out];simp
              clear HE;go_enter Tryz.func80,Tryz.ntmps80
              (go_wp2_with fail);obtain⟨W0,hW,X,HS,HSf,HSz⟩:=bx4 w 52 (.int .i64 last) (.int .i64 ow) (.slice a1 n1 c1) (.slice a2 n2 c2);rw [hW];clear hW;obtain⟨⟨q0,q1,q2,q3⟩,-⟩:=HS.out W0 (Ext.refl _);clear HS HSf HSz;go_region;have Y:Ext W0 W0.drew:=(Ext.refl W0).drew;replace X:=X.trans Y;replace q0:=Y.keep q0;replace q1:=Y.keep q1;replace q2:=Y.keep q2;replace q3:=Y.keep q3;clear Y;generalize W0.drew=W at*;(go_wp2_with fail);(with_reducible refine(HW.out _).mono ?_);rintro e w1 ⟨rfl,hx⟩;have hy:Ext W w1:=EX;replace X:=X.trans hy;replace q0:=hy.keep q0;replace q1:=hy.keep q1;replace q2:=hy.keep q2;replace q3:=hy.keep q3;clear hx hy;(go_wp2_with fail);(with_reducible refine(HAP.out ho4 _ X).mono ?_);rintro e w2 ⟨rfl,hx⟩;have hy:Ext w1 w2:=EX;replace X:=X.trans hy;replace q0:=hy.keep q0;replace q1:=hy.keep q1;replace q2:=hy.keep q2;replace q3:=hy.keep q3;clear hx hy;(go_wp2_with fail);go_ret;exact⟨rfl,EX⟩
            | true =>
              cases ae with
              | false =>
                obtain rfl:r=1:=by rw [HE.out];simp
                clear HE;go_enter Tryz.func80,Tryz.ntmps80
                (go_wp2_with fail);obtain⟨W0,hW,X,HS,HSf,HSz⟩:=bx4 w 52 (.int .i64 last) (.int .i64 ow) (.slice a1 n1 c1) (.slice a2 n2 c2);rw [hW];clear hW;obtain⟨⟨q0,q1,q2,q3⟩,-⟩:=HS.out W0 (Ext.refl _);clear HS HSf HSz;go_region;have Y:Ext W0 W0.drew:=(Ext.refl W0).drew;replace X:=X.trans Y;replace q0:=Y.keep q0;replace q1:=Y.keep q1;replace q2:=Y.keep q2;replace q3:=Y.keep q3;clear Y;generalize W0.drew=W at*;(go_wp2_with fail);(with_reducible refine(HW.out _).mono ?_);rintro e w1 ⟨rfl,hx⟩;have hy:Ext W w1:=EX;replace X:=X.trans hy;replace q0:=hy.keep q0;replace q1:=hy.keep q1;replace q2:=hy.keep q2;replace q3:=hy.keep q3;clear hx hy;(go_wp2_with fail);(with_reducible refine(HAP.out ho4 _ X).mono ?_);rintro e w2 ⟨rfl,hx⟩;have hy:Ext w1 w2:=EX;replace X:=X.trans hy;replace q0:=hy.keep q0;replace q1:=hy.keep q1;replace q2:=hy.keep q2;replace q3:=hy.keep q3;clear hx hy;(go_wp2_with fail);(with_reducible refine(HAE.out ho4 _ X).mono ?_);rintro e w3 ⟨rfl,hx⟩;have hy:Ext w2 w3:=EX;replace X:=X.trans hy;replace q0:=hy.keep q0;replace q1:=hy.keep q1;replace q2:=hy.keep q2;replace q3:=hy.keep q3;clear hx hy;(go_wp2_with fail);go_ret;exact⟨rfl,EX⟩
              | true =>
                have HRB:=hHd (HOK.out (by omega) (by omega) (by omega) rfl (by omega) rfl rfl);have HRE:Hid (r=if 1000<manyL 1000 rs then 3 else 0):=hHd (by rw [HE.out];simp [ho4.1]);have HMB:Hid (∀k,1≤manyL 1000 (rs.take k)∧manyL 1000 (rs.take k)≤1001):=hHd (fun k=>manyL_bd (cap:=1000) (by omega) (fun r hr=>(HRB.out r (List.mem_of_mem_take hr)).2.1));have HMN:=hHd (fun k (h:k<rs.length)=>manyL_next 1000 h);have hln:=HLN.out;clear HE HOK HLN;go_enter Tryz.func80,Tryz.ntmps80
                (go_wp2_with fail);obtain⟨W0,hW,X,HS,HSf,HSz⟩:=bx4 w 52 (.int .i64 last) (.int .i64 ow) (.slice a1 n1 c1) (.slice a2 n2 c2);rw [hW];clear hW;obtain⟨⟨q0,q1,q2,q3⟩,-⟩:=HS.out W0 (Ext.refl _);clear HS HSf HSz;go_region;have Y:Ext W0 W0.drew:=(Ext.refl W0).drew;replace X:=X.trans Y;replace q0:=Y.keep q0;replace q1:=Y.keep q1;replace q2:=Y.keep q2;replace q3:=Y.keep q3;clear Y;generalize W0.drew=W at*;(go_wp2_with fail);(with_reducible refine(HW.out _).mono ?_);rintro e w1 ⟨rfl,hx⟩;have hy:Ext W w1:=EX;replace X:=X.trans hy;replace q0:=hy.keep q0;replace q1:=hy.keep q1;replace q2:=hy.keep q2;replace q3:=hy.keep q3;clear hx hy;(go_wp2_with fail);(with_reducible refine(HAP.out ho4 _ X).mono ?_);rintro e w2 ⟨rfl,hx⟩;have hy:Ext w1 w2:=EX;replace X:=X.trans hy;replace q0:=hy.keep q0;replace q1:=hy.keep q1;replace q2:=hy.keep q2;replace q3:=hy.keep q3;clear hx hy;(go_wp2_with fail);(with_reducible refine(HAE.out ho4 _ X).mono ?_);rintro e w3 ⟨rfl,hx⟩;have hy:Ext w2 w3:=EX;replace X:=X.trans hy;replace q0:=hy.keep q0;replace q1:=hy.keep q1;replace q2:=hy.keep q2;replace q3:=hy.keep q3;clear hx hy;clear HAP HAE HW;(go_wp2_with fail);(with_reducible refine(HRN.out _ X).mono ?_);rintro e w4 ⟨a,q,rfl,hown,hx4⟩;have HO:=hHd hown;have X4:=X.trans hx4;clear hown hx4 HRN X q0 q1 q2 q3;(go_wp2_with fail);go_loopw [5,55] (fun s5 s55 wr=>∃k:Nat,k≤rs.length∧s55= .int .i64 k∧s5= .int .i64 (manyL 1000 (rs.take k))∧Ext w4 wr) (fun _ s _=>rs.length - (intOf s).toNat)
                case atStart=>exact⟨0,Nat.zero_le _,rfl,rfl,Ext.refl _⟩
                case round=>
                  obtain⟨k,hk,rfl,rfl,hx⟩:=hrel;obtain⟨wo,rfl⟩:∃x,x=wr:=⟨_,rfl⟩;by_cases hlt:k<rs.length
                  · obtain ⟨g, rfl, -, -, hc⟩ := Hs.Own.at rngC_len HO.out hlt; have m0 := hx.keep (hc 0 _ rfl); have m1 := hx.keep (hc 1 _ rfl); simp only [Nat.add_zero] at m0; have hr := HRB.out _ (List.getElem_mem hlt); have HN := hHd (HMN.out k hlt); have hb := HMB.out k; obtain ⟨mk, hmk⟩ : ∃ x, x = manyL 1000 (rs.take k) := ⟨_, rfl⟩; have HMK := hHd hmk; rw [← hmk] at HN hb ⊢; clear hmk hc; generalize rs[k] = x at *; obtain ⟨lo, hi⟩ := x; simp only at hr m0 m1 HN; have hk0 : (0 : Int) ≤ (k : Int) := by omega
                    have hk1:(k:Int)<(rs.length:Int):=by omega
                    have hpr:0≤mk*(hi - lo+1)∧mk*(hi - lo+1)≤31031:=by
                      have h1:0*(hi - lo+1)≤mk*(hi - lo+1):=Int.mul_le_mul_of_nonneg_right (by omega) (by omega);have h2:mk*(hi - lo+1)≤1001*(hi - lo+1):=Int.mul_le_mul_of_nonneg_right (by omega) (by omega);omega
                    have HSZ:=hHd (size_p lo hi (by omega));generalize hi - lo+1=s at*;have hw:IntKind.i64.wrap (mk*s)=mk*s:=IntWalk.i64_in _ (by omega);obtain⟨z,hz⟩:∃z,z=min (mk*s) 1001:=⟨_,rfl⟩;have HZ:Hid (manyL 1000 (rs.take (k+1))=z):=hHd (by rw [HN.out,hz];rfl);have HMI:=hHd (min2_p (mk*s) 1001 z (by rw [hz];omega));clear hz HN hb hr hpr;(go_wp2_with fail);(with_reducible refine(HSZ.out _).mono ?_);rintro e w5 ⟨rfl,hx5⟩;have X5:Ext w4 w5:=EX;clear hx5 m0 m1 hx;(go_wp2_with fail);(with_reducible refine(HMI.out _ _ (by simp [go_sem]) (by simp [go_sem]) 2 (Nat.le_refl _)).mono ?_);rintro e w6 ⟨rfl,hx6⟩;have X6:Ext w4 w6:=EX;clear hx6 X5;(go_wp2_with fail);go_roundw
                    case rel=>exact⟨k+1,by omega,by go_num,by rw [HZ.out],X6⟩
                    case measure=>simp [intOf];omega
                  · obtain rfl : k = rs.length := by omega
                    have HT:Hid (rs.take rs.length=rs):=hHd (List.take_length ..);rw [HT.out];by_cases hm:1000<manyL 1000 rs
                    · have hd : decide ((1000 : Int) < manyL 1000 rs) = true := decide_eq_true hm; obtain rfl : r = 3 := by rw [HRE.out, if_pos hm]
                      clear HRE;(go_wp2_with fail);go_ret;exact⟨rfl,X4.trans hx⟩
                    · have hd : decide ((1000 : Int) < manyL 1000 rs) = false := decide_eq_false hm; obtain rfl : r = 0 := by rw [HRE.out, if_neg hm]
                      clear HRE;(go_wp2_with fail);go_ret;exact⟨rfl,X4.trans hx⟩
end Go.Proofs.YtegkdnfeceomdaaGreat
namespace Go.Hs
open Go.RowKit
def setAll:World→Nat→Nat→List Value→World
 |w,_,_,[]=>w
 |w,T,i,v::vs=>setAll (w.setCell ⟨T,i,none⟩ v) T (i+1) vs
theorem setAll_ext {W w:World} {T:Nat} (hT:W.heap.size≤T):∀(vs:List Value) (i:Nat) {w:World},Ext W w→Ext W (setAll w T i vs)
 | [],_,_,h=>h
 |_::vs,i,_,h=>setAll_ext (w:=w) hT vs (i+1) (h.setCell hT _)
theorem setAll_size {T:Nat} :∀(vs:List Value) (i:Nat) (w:World),(setAll w T i vs).heap.size=w.heap.size
 | [],_,_=>rfl
 |_::vs,i,w=>by rw [setAll,setAll_size vs (i+1),World.size_setCell]
theorem setAll_frozen {T:Nat} :∀(vs:List Value) (i:Nat) (w:World) (a:Addr),(setAll w T i vs).frozen? a=w.frozen? a
 | [],_,_,_=>rfl
 |_::vs,i,w,a=>by rw [setAll,setAll_frozen vs (i+1),World.frozen?_setCell]
theorem setAll_other {T:Nat} :∀(vs:List Value) (i:Nat) (w:World) (b o:Nat) (x:Value),(b≠T∨o<i)→w.cell? ⟨b,o,none⟩=some x→(setAll w T i vs).cell? ⟨b,o,none⟩=some x
  | [],_,_,_,_,_,_,h=>h
  | v :: vs, i, w, b, o, x, hn, h => by
    rw [setAll];refine setAll_other vs (i+1) _ b o x (by omega) ?_
    rw [World.cell?_setCell_other (h:=by intro e;cases e;simp at hn)];exact h
theorem setAll_at {T : Nat} : ∀ (vs : List Value) (i : Nat) (w : World), (∀ j, j < vs.length → ∃ x, w.cell? ⟨T, i + j, none⟩ = some x) → ∀ j x, vs[j]? = some x → (setAll w T i vs).cell? ⟨T, i + j, none⟩ = some x
  | [],_,_,_,j,x,h=>by simp at h
  | v :: vs, i, w, hz, j, x, h => by
    rw [setAll];obtain⟨y,hy⟩:=hz 0 (by simp);cases j with
    | zero =>
      simp at h;subst h
      exact setAll_other vs (i+1) _ T (i+0) v (.inr (by omega)) (World.cell?_setCell_same _ _ _ hy)
    | succ j =>
      have:=setAll_at vs (i+1) (w.setCell ⟨T,i,none⟩ v) (fun k hk=>by
        obtain⟨z,hz⟩:=hz (k+1) (by simpa using hk);refine⟨z,?_⟩
        rw [World.cell?_setCell_other (h:=by intro e;injection e with _ e2 _;omega),show i+1+k=i+(k+1) by omega];exact hz) j x (by simpa using h)
      rw [show i+(j+1)=i+1+j by omega];exact this
def curV (w:World) (a:Addr):Value:=(w.cell? a).getD (.bool false)
theorem cur_self {w:World} {a:Addr} {x:Value} (h:w.cell? a=some x):w.cell? a=some (curV w a):=by simp [curV,h]
theorem cur_val {w:World} {a:Addr} {x:Value} (h:w.cell? a=some x):curV w a=x:=by simp [curV,h]
structure KP (p:Nat→Prop) (w w':World):Prop where
 os:w'.os=w.os
 tape:w'.tape=w.tape
 output:w'.output=w.output
 size:w.heap.size≤w'.heap.size
 block:∀k,k<w.heap.size→¬p k→w'.heap[k]?=w.heap[k]?
section
variable {p:Nat→Prop} {a b c:World}
theorem Ext.kp (h:Ext a b):KP p a b:=⟨h.os,h.tape,h.output,h.size,fun _ hk _=>h.heap hk⟩
theorem KP.refl (w:World):KP p w w:=(Ext.refl w).kp
theorem KP.trans (h:KP p a b) (k:KP p b c):KP p a c:=
 ⟨k.os.trans h.os,k.tape.trans h.tape,k.output.trans h.output,Nat.le_trans h.size k.size,fun i hi hr=>(k.block i (Nat.lt_of_lt_of_le hi h.size) hr).trans (h.block i hi hr)⟩
theorem KP.grown {o:Option Nat} (h:a.grownBy b o) (ho:∀g,o=some g→p g):KP p a b:=⟨h.os,h.tape,h.output,h.size,fun i hi hr=>h.block i hi (fun e=>hr (ho i e.symm))⟩
theorem KP.ext (h:KP p a b) (k:Ext b c):KP p a c:=h.trans k.kp
theorem KP.drew (h:KP p a b):KP p a b.drew:=h.ext (Ext.refl b).drew
theorem KP.alloc (h:KP p a b) (o:Obj):KP p a (b.alloc o):=h.ext ((Ext.refl b).alloc o)
theorem KP.setCell {T i:Nat} (h:KP p a b) (hT:p T) (v:Value):KP p a (b.setCell ⟨T,i,none⟩ v):=
 have E:Below 0 b (b.setCell ⟨T,i,none⟩ v):=Below.setCell (Below.refl 0 b) (Nat.zero_le _) v;⟨E.os.trans h.os,E.tape.trans h.tape,E.output.trans h.output,Nat.le_trans h.size E.size,fun k hk hr=>(Below.heap_setCell _ _ _ _ (show k≠T from fun e=>hr (e ▸ hT))).trans (h.block k hk hr)⟩
theorem KP.keep (h:KP p a b) {k o:Nat} {v:Value} (hr:¬p k) (hc:a.cell? ⟨k,o,none⟩=some v):b.cell? ⟨k,o,none⟩=some v:=by
 rw [World.cell?_of_block (w:=a) (h.block k (lt_of_cell hc) hr)];exact hc
theorem KP.frozen (h:KP p a b) {k o:Nat} (hk:k<a.heap.size) (hr:¬p k):b.frozen? ⟨k,o,none⟩=a.frozen? ⟨k,o,none⟩:=World.frozen?_of_block (w:=a) (h.block k hk hr)
theorem KP.toExt (h:KP p a b) {w:World} (hx:Ext w a) (hp:∀k,p k→w.heap.size≤k):Ext w b:=
 ⟨h.os.trans hx.os,h.tape.trans hx.tape,h.output.trans hx.output,Nat.le_trans hx.size h.size,fun k hk=>(h.block k (Nat.lt_of_lt_of_le hk hx.size) (fun e=>by have:=hp k e;omega)).trans (hx.block k hk)⟩
end
structure BoxN (W:World) (T:Nat) (vs:List Value) (w:World):Prop where
 ext:Ext W w
 cells:∀i x,vs[i]?=some x→w.cell? ⟨T,i,none⟩=some x
 fr:∀o,w.frozen? ⟨T,o,none⟩=false
 ge:W.heap.size≤T
 lt:T<w.heap.size
section
variable {W w w' A:World} {T:Nat} {vs zs:List Value} {t:TypeId}
theorem BoxN.keep (h:BoxN W T vs w) (hx:Ext w w'):BoxN W T vs w':=
 ⟨h.ext.trans hx,fun i x hi=>hx.keep (h.cells i x hi),fun o=>(hx.frozen h.lt).trans (h.fr o),h.ge,Nat.lt_of_lt_of_le h.lt hx.size⟩
theorem BoxN.made (hx:Ext W A):BoxN W A.heap.size vs (A.alloc (.cells vs.toArray t)):=
 ⟨hx.alloc _, fun i x hi => by
  have:vs.toArray[i]?=some x:=by simpa using hi
  simp [go_sem,this],fun o=>by simp [go_sem],hx.size,by simp⟩
theorem BoxN.zero (hx:Ext W A) (h:Ext (A.alloc (.cells zs.toArray t)) w):BoxN W A.heap.size zs w:=(BoxN.made hx).keep h
theorem BoxN.zerod (hx:Ext W A) (h:Ext (A.alloc (.cells zs.toArray t)).drew w):BoxN W A.heap.size zs w:=(BoxN.made hx).keep ((Ext.refl _).drew.trans h)
theorem BoxN.has (h:BoxN W T vs w) (o:Nat) (ho:o<vs.length):∃x,w.cell? ⟨T,o,none⟩=some x:=⟨vs[o],h.cells o _ (by simp [ho])⟩
theorem BoxN.stored (h:BoxN W T zs w) (hl:vs.length≤zs.length):BoxN W T vs (setAll w T 0 vs):=by
 refine⟨setAll_ext (w:=w) h.ge vs 0 h.ext,fun i x hi=> ?_,fun o=>(setAll_frozen vs 0 w _).trans (h.fr o),h.ge,?_⟩
 ·have:=setAll_at (T:=T) vs 0 w (fun j hj=>⟨zs[j]'(by omega),by rw [Nat.zero_add];exact h.cells j _ (by simp)⟩) i x hi;rwa [Nat.zero_add] at this
 ·rw [setAll_size];exact h.lt
theorem BoxN.stored4 {a0 a1 a2 a3 z0 z1 z2 z3:Value} (h:BoxN W T [z0,z1,z2,z3] w):BoxN W T [a0,a1,a2,a3] ((((w.setCell ⟨T,0,none⟩ a0).setCell ⟨T,1,none⟩ a1).setCell ⟨T,2,none⟩ a2).setCell ⟨T,3,none⟩ a3):=BoxN.stored (vs:= [a0,a1,a2,a3]) h (by simp)
end
end Go.Hs
namespace Go.Hs
open Go
def unl (l:List Bool):Nat:=l.countP (fun b=> !b)
theorem unl_set:∀(l:List Bool) (i:Nat),l[i]?=some false→unl (l.set i true)+1=unl l
  | [],i,h=>by simp at h
  | b :: l, 0, h => by
    have e:b=false:=by simpa using h
    subst e;simp [unl]
  | b :: l, i + 1, h => by
    have:=unl_set l i (by simpa using h);simp only [List.set_cons_succ];simp only [unl,List.countP_cons] at*;omega
theorem unl_pos {l:List Bool} {i:Nat} (h:l[i]?=some false):0<unl l:=by have:=unl_set l i h;omega
theorem getD_false {l:List Bool} {i:Nat} :l.toArray.getD i true=false↔l[i]?=some false:=by
 simp only [Array.getD_eq_getD_getElem?,List.getElem?_toArray];cases l[i]?<;>simp
theorem getD_true {l:List Bool} {i:Nat} :l.toArray.getD i false=true↔l[i]?=some true:=by
 simp only [Array.getD_eq_getD_getElem?,List.getElem?_toArray];cases l[i]?<;>simp
def Act.puts (a:Act):List Nat→List Value→Act
 |d::ds,v::vs=>(Act.puts a ds vs).put (some d) v
 |_,_=>a
section
variable {P:Program} {ops:Array Oper} {Q:Exit→Act→World→Prop} {md:Region.Mode} {S:World→Prop}
theorem wpAnyH_inv {I:List Bool→Act→World→Prop}
    (step:∀l a w,I l a w→∀i o,ops[i]?=some o→l[i]?=some false→(∀e∈o.after,Region.binds md e=true→l[e.on]?=some true)→wpOp P ops Q i (fun a' w'=>S w'∧I (l.set i true) a' w') a w)
    (done:∀l a w,I l a w→Region.ready md ops l.toArray= []→Q .normal a w):
    ∀(fuel:Nat) (l:List Bool) (a:Act) (w:World),I l a w→unl l≤fuel→wpAnyH P md ops Q S fuel l.toArray a w:=by
  intro fuel
  induction fuel with
  | zero =>
    intro l a w hi hc
    have hr:Region.ready md ops l.toArray= []:=by
      rw [List.eq_nil_iff_forall_not_mem];intro i hm
      have:=unl_pos (getD_false.1 (mem_ready.1 hm).1);omega
    exact⟨hr,done l a w hi hr⟩
  | succ fuel ih =>
    intro l a w hi hc
    refine⟨fun hr=>done l a w hi hr,fun i hm=> ?_⟩
    obtain⟨h0,o,ho,hall⟩:=mem_ready.1 hm;have h1:=getD_false.1 h0;refine wpOp_mono (fun a' w' h=>⟨h.1,?_⟩) (step l a w hi i o ho h1 (fun e he hb=>getD_true.1 (hall e he hb)))
    rw [List.setIfInBounds_toArray];refine ih _ _ _ h.2 ?_
    have:=unl_set l i h1;omega
def StepI (P:Program) (md:Region.Mode) (ops:Array Oper) (Q:Exit→Act→World→Prop) (S:World→Prop) (A:Act) (slots:List Nat) (J:List Bool→List Value→World→Prop) (i:Nat):Prop:=
 ∀ l vs w, J l vs w → l[i]? = some false → (∀ o, ops[i]? = some o → ∀ e ∈ o.after, Region.binds md e = true → l[e.on]? = some true) →
  ∃o,ops[i]?=some o∧∀K':Act→World→Prop,Shut (∀vs' a w',a=Act.puts A slots vs'→S w'→J (l.set i true) vs' w'→K' a w')→
   if Region.wanted o (yielded ops (Act.puts A slots vs).tmps)=true then Oper.wp P o (Act.puts A slots vs) w K' Q else K' ((Act.puts A slots vs).put o.dst undef) w
theorem wpAnyH_invP {A:Act} {listed:Array Bool} {fuel:Nat} {w:World} (slots:List Nat) (vs0:List Value) (l0:List Bool) (rs:List Nat) (J:List Bool→List Value→World→Prop)
  (hl:listed=l0.toArray) (hA:Act.puts A slots vs0=A) (hc:unl l0≤fuel) (init:J l0 vs0 w)
  (hrs:∀l vs w,J l vs w→∀i,l[i]?=some false→i∈rs)
  (step:∀i∈rs,StepI P md ops Q S A slots J i)
  (done:∀l vs w,J l vs w→Region.ready md ops l.toArray= []→Q .normal (Act.puts A slots vs) w):wpAnyH P md ops Q S fuel listed A w:=by
 subst hl
 have:=wpAnyH_inv (P:=P) (ops:=ops) (Q:=Q) (md:=md) (S:=S) (I:=fun l a w=>∃vs,a=Act.puts A slots vs∧J l vs w)
  (fun l a w ⟨vs, e, hj⟩ i o ho hb hd => by
   subst e
   obtain⟨o',ho',h⟩:=step i (hrs l vs w hj i hb) l vs w hj hb (fun o2 h2=>by
    rw [ho] at h2;cases h2;exact hd)
   rw [ho] at ho';cases ho';exact wpOp_step ho (fun K' hK=>h K' (fun vs' a w' e hS hJ=>hK a w' ⟨hS,vs',e,hJ⟩)))
  (fun l a w ⟨vs,e,hj⟩ hr=>by subst e;exact done l vs w hj hr)
  fuel l0 A w ⟨vs0,hA.symm,init⟩ hc
 exact this
theorem not_ready {l:List Bool} (hr:Region.ready md ops l.toArray= []) (i:Nat) (o:Oper) (ho:ops[i]?=some o) (hd:∀e∈o.after,Region.binds md e=true→l[e.on]?=some true) {b:Bool} (hb:l[i]?=some b):b=true:=by
  cases b with
  |true=>rfl
  | false =>
    have:i∈Region.ready md ops l.toArray:=mem_ready.2 ⟨getD_false.2 hb,o,ho,fun e he h=>getD_true.2 (hd e he h)⟩;rw [hr] at this;cases this
end
def pv (z:Value):Option Nat→Value
 |some T=> .pointer (some ⟨T,0,none⟩)
 |none=>z
structure BxI (W w:World) (x:List (Option Nat×List Value)):Prop where
 ext:Ext W w
 ge:∀(i T:Nat) (cs:List Value),x[i]?=some (some T,cs)→W.heap.size≤T∧T<w.heap.size
 inj:∀(i j T:Nat) (cs ds:List Value),x[i]?=some (some T,cs)→x[j]?=some (some T,ds)→i=j
 cell:∀(i T:Nat) (cs:List Value),x[i]?=some (some T,cs)→∀(j:Nat) (u:Value),cs[j]?=some u→w.cell? ⟨T,j,none⟩=some u
 fr:∀(i T:Nat) (cs:List Value),x[i]?=some (some T,cs)→∀(o:Nat),w.frozen? ⟨T,o,none⟩=false
theorem BxI.more {W w w':World} {x:List (Option Nat×List Value)} (h:BxI W w x) (hx:Ext w w'):BxI W w' x:=
 ⟨h.ext.trans hx,fun i T cs e=>⟨(h.ge i T cs e).1,Nat.lt_of_lt_of_le (h.ge i T cs e).2 hx.size⟩,h.inj,fun i T cs e j u hu=>hx.keep (h.cell i T cs e j u hu),fun i T cs e o=>(hx.frozen (h.ge i T cs e).2).trans (h.fr i T cs e o)⟩
theorem BxI.start {W w:World} {x:List (Option Nat×List Value)} (hx:Ext W w) (h:∀p∈x,p.1=none):BxI W w x:=by
 have no:∀(i T:Nat) (cs:List Value),¬x[i]?=some (some T,cs):=fun i T cs e=>by
  have:=h _ (List.mem_of_getElem? e);cases this
 exact⟨hx,fun i T cs e=>absurd e (no i T cs),fun i j T cs ds e _=>absurd e (no i T cs),fun i T cs e=>absurd e (no i T cs),fun i T cs e=>absurd e (no i T cs)⟩
theorem BxI.store {W w w':World} {x:List (Option Nat×List Value)} (h:BxI W w x) (i:Nat) {T:Nat} {cs ds:List Value} (hi:x[i]?=some (some T,cs))
  (hp:KP (fun j=>j=T) w w') (hc:∀(j:Nat) (u:Value),ds[j]?=some u→w'.cell? ⟨T,j,none⟩=some u) (hf:∀o,w'.frozen? ⟨T,o,none⟩=false):BxI W w' (x.set i (some T,ds)):=by
 have hlt:i<x.length:=(List.getElem?_eq_some_iff.1 hi).1;have hT:=h.ge i T cs hi
 have split:∀(k T':Nat) (cs':List Value),(x.set i (some T,ds))[k]?=some (some T',cs')→(k=i∧T'=T∧cs'=ds)∨(k≠i∧T'≠T∧x[k]?=some (some T',cs')):=fun k T' cs' e=>by
  by_cases hk:k=i
  ·subst hk;rw [List.getElem?_set_self hlt] at e;simp only [Option.some.injEq,Prod.mk.injEq] at e;exact .inl ⟨rfl,e.1.symm,e.2.symm⟩
  ·rw [List.getElem?_set_ne (Ne.symm hk)] at e;exact .inr ⟨hk,fun e2=>hk (h.inj k i T _ _ (e2 ▸ e) hi),e⟩
 refine⟨⟨hp.os.trans h.ext.os,hp.tape.trans h.ext.tape,hp.output.trans h.ext.output,Nat.le_trans h.ext.size hp.size,fun k hk=>(hp.block k (Nat.lt_of_lt_of_le hk h.ext.size) (fun e=>by have:=hT.1;omega)).trans (h.ext.block k hk)⟩,fun k T' cs' e=> ?_,fun k j T' c1 c2 e1 e2=> ?_,fun k T' cs' e j u hu=> ?_,fun k T' cs' e o=> ?_⟩
 ·rcases split k T' cs' e with ⟨rfl, rfl, rfl⟩ | ⟨-, -, e⟩
  ·exact⟨hT.1,Nat.lt_of_lt_of_le hT.2 hp.size⟩
  ·have:=h.ge k T' cs' e;exact⟨this.1,Nat.lt_of_lt_of_le this.2 hp.size⟩
 ·rcases split k T' c1 e1 with ⟨rfl, rfl, rfl⟩ | ⟨hk, hn, f1⟩ <;> rcases split j T' c2 e2 with ⟨rfl, h2, rfl⟩ | ⟨hj, hn2, f2⟩
  ·rfl
  ·exact absurd rfl hn2
  ·exact absurd h2 hn
  ·exact h.inj k j T' c1 c2 f1 f2
 ·rcases split k T' cs' e with ⟨rfl, rfl, rfl⟩ | ⟨-, hn, e⟩
  ·exact hc j u hu
  ·exact hp.keep hn (h.cell k T' cs' e j u hu)
 ·rcases split k T' cs' e with ⟨rfl, rfl, rfl⟩ | ⟨-, hn, e⟩
  ·exact hf o
  ·exact(hp.frozen (h.ge k T' cs' e).2 hn).trans (h.fr k T' cs' e o)
end Go.Hs
namespace Go.Hs
open Go.RowKit
theorem cell_ne {W:World} {b i b' i':Nat} {x v:Value} (h:b≠b'∨i≠i') (hc:W.cell? ⟨b,i,none⟩=some x):(W.setCell ⟨b',i',none⟩ v).cell? ⟨b,i,none⟩=some x:=by
 rw [World.cell?_setCell_other (h:=by intro e;cases e;rcases h with h|h<;>exact h rfl)];exact hc
def FdAt (w:World) (P o:Nat) (x:Fd):Prop:=
 w.cell? ⟨P,o,none⟩=some (.bool x.there)∧w.cell? ⟨P,o+1,none⟩=some (.bool x.gone)∧w.cell? ⟨P,o+2,none⟩=some (.int .i64 x.owner)∧w.cell? ⟨P,o+3,none⟩=some (.int .i64 x.value)∧w.cell? ⟨P,o+4,none⟩=some (.int .i64 x.sown)
structure WkAt (P:Nat) (c0 c1 c2 c3:Value) (f:Fds) (w:World):Prop where
 c0:w.cell? ⟨P,0,none⟩=some c0
 c1:w.cell? ⟨P,1,none⟩=some c1
 c2:w.cell? ⟨P,2,none⟩=some c2
 c3:w.cell? ⟨P,3,none⟩=some c3
 fd:∀i,i<10→FdAt w P (4+i*5) (f i)
 fr:∀(o:Nat),w.frozen? ⟨P,o,none⟩=false
section
variable {P:Nat} {c0 c1 c2 c3:Value} {f:Fds} {w W:World}
theorem FdAt.keep {o:Nat} {x:Fd} (h:FdAt w P o x) (hk:∀o v,w.cell? ⟨P,o,none⟩=some v→W.cell? ⟨P,o,none⟩=some v):FdAt W P o x:=⟨hk _ _ h.1,hk _ _ h.2.1,hk _ _ h.2.2.1,hk _ _ h.2.2.2.1,hk _ _ h.2.2.2.2⟩
theorem WkAt.lt (h:WkAt P c0 c1 c2 c3 f w):P<w.heap.size:=lt_of_cell h.c0
theorem WkAt.kp {p:Nat→Prop} (h:WkAt P c0 c1 c2 c3 f w) (k:KP p w W) (hP:¬p P):WkAt P c0 c1 c2 c3 f W:=
 ⟨k.keep hP h.c0,k.keep hP h.c1,k.keep hP h.c2,k.keep hP h.c3,fun i hi=>(h.fd i hi).keep (fun _ _ e=>k.keep hP e),fun o=>(k.frozen h.lt hP).trans (h.fr o)⟩
theorem WkAt.ext (h:WkAt P c0 c1 c2 c3 f w) (hx:Ext w W):WkAt P c0 c1 c2 c3 f W:=h.kp (p:=fun _=>False) hx.kp id
theorem WkAt.put (h:WkAt P c0 c1 c2 c3 f w) {i:Nat} {x:Fd} (hx:FdAt W P (4+i*5) x) (ho:∀o v,(o<4+i*5∨4+i*5+5≤o)→w.cell? ⟨P,o,none⟩=some v→W.cell? ⟨P,o,none⟩=some v) (hf:∀(o:Nat),W.frozen? ⟨P,o,none⟩=w.frozen? ⟨P,o,none⟩):WkAt P c0 c1 c2 c3 (upd f i x) W:=by
 refine⟨ho _ _ (.inl (by omega)) h.c0,ho _ _ (.inl (by omega)) h.c1,ho _ _ (.inl (by omega)) h.c2,ho _ _ (.inl (by omega)) h.c3,fun j hj=> ?_,fun o=>(hf o).trans (h.fr o)⟩
 unfold upd;by_cases e:j=i
 ·subst e;rw [if_pos rfl];exact hx
 ·rw [if_neg e]; obtain ⟨h0, h1, h2, h3, h4⟩ := h.fd j hj; have hd : 4 + j * 5 + 5 ≤ 4 + i * 5 ∨ 4 + i * 5 + 5 ≤ 4 + j * 5 := by omega
  exact⟨ho _ _ (by omega) h0,ho _ _ (by omega) h1,ho _ _ (by omega) h2,ho _ _ (by omega) h3,ho _ _ (by omega) h4⟩
theorem FdAt.owner {o:Nat} {x:Fd} (h:FdAt w P o x) (n:Int):FdAt (w.setCell ⟨P,o+2,none⟩ (.int .i64 n)) P o { x with owner:=n } :=
 ⟨cell_ne (.inr (by omega)) h.1,cell_ne (.inr (by omega)) h.2.1,World.cell?_setCell_same _ _ _ h.2.2.1,cell_ne (.inr (by omega)) h.2.2.2.1,cell_ne (.inr (by omega)) h.2.2.2.2⟩
theorem FdAt.value {o:Nat} {x:Fd} (h:FdAt w P o x) (n:Int):FdAt (w.setCell ⟨P,o+3,none⟩ (.int .i64 n)) P o { x with value:=n } :=
 ⟨cell_ne (.inr (by omega)) h.1,cell_ne (.inr (by omega)) h.2.1,cell_ne (.inr (by omega)) h.2.2.1,World.cell?_setCell_same _ _ _ h.2.2.2.1,cell_ne (.inr (by omega)) h.2.2.2.2⟩
theorem FdAt.gone {o:Nat} {x:Fd} (h:FdAt w P o x) (b:Bool):FdAt (w.setCell ⟨P,o+1,none⟩ (.bool b)) P o { x with gone:=b } :=
 ⟨cell_ne (.inr (by omega)) h.1,World.cell?_setCell_same _ _ _ h.2.1,cell_ne (.inr (by omega)) h.2.2.1,cell_ne (.inr (by omega)) h.2.2.2.1,cell_ne (.inr (by omega)) h.2.2.2.2⟩
theorem WkAt.owner (h:WkAt P c0 c1 c2 c3 f w) {i:Nat} (hi:i<10) (n:Int):WkAt P c0 c1 c2 c3 (upd f i { f i with owner:=n }) (w.setCell ⟨P,4+i*5+2,none⟩ (.int .i64 n)):=
 h.put ((h.fd i hi).owner n) (fun o v ho e=>cell_ne (.inr (by omega)) e) (fun o=>World.frozen?_setCell ..)
theorem WkAt.value (h:WkAt P c0 c1 c2 c3 f w) {i:Nat} (hi:i<10) (n:Int):WkAt P c0 c1 c2 c3 (upd f i { f i with value:=n }) (w.setCell ⟨P,4+i*5+3,none⟩ (.int .i64 n)):=
 h.put ((h.fd i hi).value n) (fun o v ho e=>cell_ne (.inr (by omega)) e) (fun o=>World.frozen?_setCell ..)
theorem WkAt.gone (h:WkAt P c0 c1 c2 c3 f w) {i:Nat} (hi:i<10) (b:Bool):WkAt P c0 c1 c2 c3 (upd f i { f i with gone:=b }) (w.setCell ⟨P,4+i*5+1,none⟩ (.bool b)):=
 h.put ((h.fd i hi).gone b) (fun o v ho e=>cell_ne (.inr (by omega)) e) (fun o=>World.frozen?_setCell ..)
end
theorem numsTo_take {b:Bk} {n:Nat} (hn:n≤b.ents.length):numsB { b with ents:=b.ents.take n } =numsTo b n:=by
 unfold numsB numsTo;simp [List.take_take,Nat.min_eq_left hn]
end Go.Hs
namespace Go.Proofs.YtegkdnfeceomdaaGreat
open Go.RowKit Go.Hs
attribute [local irreducible] World.setCell World.alloc
theorem made_p (b:Bk) (v:Value) (n:Nat) (w:World) (hv:BkV w v b) (hn:n≤b.ents.length):
  Calls Tryz.prog 189 #[v,.int .i64 n] w fun e w'=>e= .returned (.int .i64 (numsTo b n))∧Ext w w':=by
 obtain⟨a1,c1,a2,c2,rfl,hp,he,hp1,he1,hp2,he2⟩:=hv.open
 have HN:Hid (∀W,Ext w W→Calls Tryz.prog 164 #[bkV a1 b.pars.length c1 a2 n c2 b.last b.owners] W fun e w'=>e= .returned (.int .i64 (numsTo b n))∧Ext W w'):=hHd (fun W hx=>by
  have h:=numbers_p { b with ents:=b.ents.take n } (bkV a1 b.pars.length c1 a2 n c2 b.last b.owners) W ⟨_,_,rfl,⟨_,_,rfl,hp1,hp2,hp.ext hx⟩,by
   have el:(b.ents.take n).length=n:=by simp;omega
   refine⟨a2,c2,by rw [el],by rw [el];omega,by rw [el];omega,fun i hi=> ?_⟩
   have hi':i<n:=by have h:=hi;simp at h;omega
   obtain⟨b',off,e,hc⟩:=he.ext hx i (by simp;omega);refine⟨b',off,e,?_⟩
   have e1:((b.ents.take n).map Ent.c)[i]'hi=(b.ents.map Ent.c)[i]'(by simp;omega):=by simp
   rw [e1];exact hc⟩
  rw [numsTo_take hn] at h;exact h)
 clear hv hp he;unfold bkV at*;generalize numsTo b n=r at*;generalize b.pars.length=n1 at*;generalize b.ents.length=n2 at*;generalize b.last=last at*;generalize b.owners=ow at*;have h0:(0:Int)≤(n:Int):=by omega
 have h1:(n:Int)≤(c2:Int):=by omega
 have h2:n≤c2:=by omega
 go_enter Tryz.func189,Tryz.ntmps189
 (go_wp2_with fail);(with_reducible refine(HN.out _ EX).mono ?_);rintro e w1 ⟨rfl,hx1⟩;(go_wp2_with fail);go_ret;exact⟨rfl,EX⟩
theorem up_p (P p:Nat) (c0 c1 c2 c3:Value) (f:Fds) (w:World) (h:WkAt P c0 c1 c2 c3 f w) (hp:p<10):
    Calls Tryz.prog 188 #[.pointer (some ⟨P,0,none⟩),.int .i64 p] w fun e w'=>e= .returned (.bool (f p).up)∧Ext w w':=by
  obtain⟨m0,m1,m2,m3,m4⟩:=h.fd p hp;have HU:Hid ((f p).up=((f p).there&& !(f p).gone)):=rfl;generalize (f p).up=r at*;generalize f p=x at*;obtain⟨th,go,ow,va,so⟩:=x;simp only at m0 m1 HU;have h0:(0:Int)≤(p:Int):=by omega
  have h1:(p:Int)<10:=by omega
  clear h m2 m3 m4;cases th with
  | false =>
    obtain rfl:r=false:=HU.out;clear HU;go_enter Tryz.func188,Tryz.ntmps188
    (go_wp2_with fail);go_ret;exact⟨rfl,EX⟩
  | true =>
    obtain rfl:r= !go:=HU.out;clear HU;go_enter Tryz.func188,Tryz.ntmps188
    (go_wp2_with fail);go_ret;exact⟨rfl,EX⟩
end Go.Proofs.YtegkdnfeceomdaaGreat
