/- Bundled: what the texts SH OX UD Z B C D E F G H T U V W X AA UP UC UE UF UG ZU UH UI say one after another. -/
import Derived.Test.YtegkdnfeceomdaaGreatKDA14
import Derived.Test.YtegkdnfeceomdaaGreatKDA4
import Derived.Test.YtegkdnfeceomdaaGreatKDA3
import Derived.Laws.EntriesVeiled
import Derived.Maps.AppendAt
import Derived.Test.YtegkdnfeceomdaaGreatKDA12
import Derived.Test.YtegkdnfeceomdaaGreatKDA1
import Derived.Test.YtegkdnfeceomdaaGreatKDA2
import Derived.Deep.RegionWith
import Derived.Deep.RegionHeld3
import Derived.Deep.DeepCutAuto
import Derived.RangeFuncRecord
set_option maxRecDepth 100000
set_option maxHeartbeats 16000000
set_option linter.unusedSimpArgs false
set_option linter.unusedVariables false
namespace Go.Proofs.YtegkdnfeceomdaaGreat
open Go.RowKit Go.Hs
attribute [local irreducible] World.setCell World.alloc
theorem info_drange:(Tryz.prog.info? 54).map (fun i=>(i.zero,i.size,i.bytes))=some (some (.agg #[.int .i64 0,.int .i64 0]),2,16):=by kernel_rfl
theorem ranges_d (A : CaseA) (c : DCas) (w : World) (hm : CaseM w A c) :
  Calls Tryz.prog 85 #[A.v c] w fun e w'=>∃a q,e= .returned (.slice a (rngsD c).length q)∧Hs.Own 2 rngC w.heap.size 54 w' (.slice a (rngsD c).length q) (rngsD c)∧Ext w w':=by
 obtain⟨i1,hi1,hz10,hz11,hz12⟩:=info_parts info_drange;have HP:Hid (∀W,Ext w W→Cells4 W A.a1 (c.bk.pars.map Par.c)):=hHd (fun W hx=>hm.pars.ext hx);have HC:Hid (∀W,Ext w W→Cells8 W A.a2 (c.bk.ents.map Ent.c)):=hHd (fun W hx=>hm.ents.ext hx);have HV:Hid (∀W,Ext w W→Cells7 W A.a3 (c.covs.map Cov.c)):=hHd (fun W hx=>hm.covs.ext hx);have hp2:=hm.l1.2;have he2:=hm.l2.2;have hv2:=hm.l3.2;have HR:Hid (rngsD c=((c.bk.ents.map (fun e=>(e.dlo,e.dhi))++c.bk.pars.map (fun p=>(p.slo,p.shi)))++c.covs.map (fun x=>(x.slo,x.shi)))++ [(c.llo,c.lhi)]):=hHd (by simp [rngsD]);generalize rngsD c=rs at*;clear hm;obtain⟨a1,c1,a2,c2,a3,c3,a4,c4⟩:=A;unfold CaseA.v caseV;simp only at*;generalize c.bk.last=last at*;generalize c.bk.owners=owners at*;generalize c.bk.pars=ps at*;generalize c.bk.ents=es at*;generalize c.covs=cs at*;generalize c.clms.length=n4 at*;generalize c.soc=soc at*;generalize c.day=day at*;generalize c.parcel=parcel at*;generalize c.llo=llo at*;generalize c.lhi=lhi at*;clear c;go_enter Tryz.func85,Tryz.ntmps85
 (go_wp2_with fail);obtain⟨W,hW,X,HS,HSf,HSz⟩:=bx11 w 57 (.int .i64 last) (.int .i64 owners) (.slice a1 ps.length c1) (.slice a2 es.length c2) (.int .i64 soc) (.int .i64 day) (.int .i64 parcel) (.slice a3 cs.length c3) (.int .i64 llo) (.int .i64 lhi) (.slice a4 n4 c4);rw [hW];clear hW;go_loopw [2,13] (fun s2 s13 wr=>∃(k m:Nat) (a5:Option Addr) (q5:Nat),k≤es.length∧m=0+k∧s13= .int .i64 k∧s2= .slice a5 m q5∧Hid (Hs.Own 2 rngC W.heap.size 54 wr (.slice a5 m q5) ([]++(es.take k).map (fun e:Ent=>(e.dlo,e.dhi))))∧Ext W wr) (fun _ s _=>es.length - (intOf s).toNat)
 case atStart=>exact⟨0,0,none,0,Nat.zero_le _,rfl,rfl,rfl,hHd (Hs.Own.nil _),Ext.refl _⟩
 case round =>
  obtain⟨k,m,a5,q5,hk,hm,rfl,rfl,HO,hx⟩:=hrel;obtain⟨wo,rfl⟩:∃x,x=wr:=⟨_,rfl⟩;obtain⟨⟨q0,q1,q2,q3,q4,q5',q6,q7,q8,q9,q10⟩,-⟩:=HS.out wo hx;by_cases hlt:k<es.length
  ·obtain ⟨b', off, rfl, hce⟩ := HC.out wo (X.trans hx) k (by simpa using hlt); have e1 : (es.map Ent.c)[k]'(by simpa using hlt) = (es[k]).c := by simp
   rw [e1] at hce;have HT:Hid ([]++(es.take (k+1)).map (fun e:Ent=>(e.dlo,e.dhi))=([]++(es.take k).map (fun e:Ent=>(e.dlo,e.dhi)))++ [(fun e:Ent=>(e.dlo,e.dhi)) es[k]]):=hHd (by rw [List.take_succ_eq_append_getElem hlt,List.map_append,←List.append_assoc];rfl);have HL:Hid (([]++(es.take k).map (fun e:Ent=>(e.dlo,e.dhi))).length=0+k):=hHd (by simp;omega);generalize []++(es.take k).map (fun e:Ent=>(e.dlo,e.dhi))=l0 at*;generalize hl1: []++(es.take (k+1)).map (fun e:Ent=>(e.dlo,e.dhi))=l1 at*;have HL1:=hHd hl1;clear hl1;generalize es[k]=en at*;obtain⟨kd,pa,ot,fr,tt,pt,dl,dh⟩:=en;obtain⟨m0,m1,m2,m3,m4,m5,m6,m7⟩:=hce;simp only [Ent.c] at m0 m1 m2 m3 m4 m5 m6 m7 HT;clear e1;have hk0:(0:Int)≤(k:Int):=by omega
   have hk1:(k:Int)<(es.length:Int):=by omega
   have hsz:W.heap.size≤wo.heap.size:=hx.size
   have HOW:Hid (∀w',Ext wo w'→w'.ownsRow W.heap.size 54 2 (.slice a5 m q5) m (l0.flatMap rngC)):=hHd (fun w' h=>by
    have:=Hs.Own.ext HO.out h;unfold Hs.Own at this;rw [HL.out,←hm] at this;exact this)
   have HM:=hHd hm;clear hm;go_wp2_with (at_builtin;refine wpList_append_own_at _ rfl _ _ 151 rfl W.heap.size 54 i1 (.agg #[.int .i64 0,.int .i64 0]) 2 16 Tryz.underlying151 hi1 hz10 hz11 hz12 rfl (by decide) (.slice a5 m q5) m (l0.flatMap rngC) rfl ?own ⟨wo.heap.size+1,0,none⟩ 1 1 [.int .i64 dl,.int .i64 dh] rfl rfl (cells_two (Ext.refl _) (by simp)) ?one ?f1 ?f2 ?f3 ?next)
   case own=>exact HOW.out _ EX
   case one=>intro u hu;simp only [List.mem_cons,List.not_mem_nil,or_false] at hu;rcases hu with rfl|rfl<;>rfl
   case f1=>have:=HM.out;simp only [maxLen];omega
   case f2=>have:=HM.out;omega
   case f3=>simp;omega
   case next=>
    intro v' w7 hown hgrow hnil hat
    have hx7:Ext W w7:=grown_ext (hx.trans EX) hgrow (fun g hg=>(own_lt (HOW.out wo (Ext.refl _)) hg).1);have HUR:Hid (Hs.Own 2 rngC W.heap.size 54 w7 v' ([]++(es.take (k+1)).map (fun e:Ent=>(e.dlo,e.dhi)))):=hHd (by rw [HL1.out,HT.out];exact Hs.Own.next hown (by rw [HL.out];have:=HM.out;omega) rfl);clear hnil hat hgrow;rcases own_open hown with ⟨-,h0⟩|⟨g',cap,rfl,-,-,-,-⟩
    ·omega
    ·clear hown; have hm' := HM.out; (go_wp2_with fail); go_roundw
     case rel=>exact⟨k+1,m+1,_,_,by omega,by omega,by go_num,rfl,HUR,hx7⟩
     case measure=>simp [intOf];omega
  ·obtain rfl : k = es.length := by omega
   have HO2:=HO.out;rw [List.nil_append,List.take_length] at HO2;have HM2:m=es.length:=by omega
   have HOQ:=hHd HO2;clear HO2 HO hm;(go_wp2_with fail);go_loopw [2,27] (fun s2 s27 wr=>∃(k m:Nat) (a5:Option Addr) (q5:Nat),k≤ps.length∧m=es.length+k∧s27= .int .i64 k∧s2= .slice a5 m q5∧Hid (Hs.Own 2 rngC W.heap.size 54 wr (.slice a5 m q5) (es.map (fun e:Ent=>(e.dlo,e.dhi))++(ps.take k).map (fun p:Par=>(p.slo,p.shi))))∧Ext W wr) (fun _ s _=>ps.length - (intOf s).toNat)
   case atStart=>exact⟨0,m,a5,q5,Nat.zero_le _,by omega,rfl,rfl,hHd (by rw [List.take_zero,List.map_nil,List.append_nil];exact HOQ.out),hx⟩
   case round =>
    obtain⟨k,m,a5,q5,hk,hm,rfl,rfl,HO,hx⟩:=hrel;obtain⟨wo,rfl⟩:∃x,x=wr:=⟨_,rfl⟩;obtain⟨⟨q0,q1,q2,q3,q4,q5',q6,q7,q8,q9,q10⟩,-⟩:=HS.out wo hx;by_cases hlt:k<ps.length
    ·obtain ⟨b', off, rfl, hce⟩ := HP.out wo (X.trans hx) k (by simpa using hlt); have e1 : (ps.map Par.c)[k]'(by simpa using hlt) = (ps[k]).c := by simp
     rw [e1] at hce;have HT:Hid (es.map (fun e:Ent=>(e.dlo,e.dhi))++(ps.take (k+1)).map (fun p:Par=>(p.slo,p.shi))=(es.map (fun e:Ent=>(e.dlo,e.dhi))++(ps.take k).map (fun p:Par=>(p.slo,p.shi)))++ [(fun p:Par=>(p.slo,p.shi)) ps[k]]):=hHd (by rw [List.take_succ_eq_append_getElem hlt,List.map_append,←List.append_assoc];rfl);have HL:Hid ((es.map (fun e:Ent=>(e.dlo,e.dhi))++(ps.take k).map (fun p:Par=>(p.slo,p.shi))).length=es.length+k):=hHd (by simp;omega);generalize es.map (fun e:Ent=>(e.dlo,e.dhi))++(ps.take k).map (fun p:Par=>(p.slo,p.shi))=l0 at*;generalize hl1:es.map (fun e:Ent=>(e.dlo,e.dhi))++(ps.take (k+1)).map (fun p:Par=>(p.slo,p.shi))=l1 at*;have HL1:=hHd hl1;clear hl1;generalize ps[k]=en at*;obtain⟨ow,va,dl,dh⟩:=en;obtain⟨m0,m1,m2,m3⟩:=hce;simp only [Par.c] at m0 m1 m2 m3 HT;clear e1;have hk0:(0:Int)≤(k:Int):=by omega
     have hk1:(k:Int)<(ps.length:Int):=by omega
     have hsz:W.heap.size≤wo.heap.size:=hx.size
     have HOW:Hid (∀w',Ext wo w'→w'.ownsRow W.heap.size 54 2 (.slice a5 m q5) m (l0.flatMap rngC)):=hHd (fun w' h=>by
      have:=Hs.Own.ext HO.out h;unfold Hs.Own at this;rw [HL.out,←hm] at this;exact this)
     have HM:=hHd hm;clear hm;go_wp2_with (at_builtin;refine wpList_append_own_at _ rfl _ _ 151 rfl W.heap.size 54 i1 (.agg #[.int .i64 0,.int .i64 0]) 2 16 Tryz.underlying151 hi1 hz10 hz11 hz12 rfl (by decide) (.slice a5 m q5) m (l0.flatMap rngC) rfl ?own ⟨wo.heap.size+1,0,none⟩ 1 1 [.int .i64 dl,.int .i64 dh] rfl rfl (cells_two (Ext.refl _) (by simp)) ?one ?f1 ?f2 ?f3 ?next)
     case own=>exact HOW.out _ EX
     case one=>intro u hu;simp only [List.mem_cons,List.not_mem_nil,or_false] at hu;rcases hu with rfl|rfl<;>rfl
     case f1=>have:=HM.out;simp only [maxLen];omega
     case f2=>have:=HM.out;omega
     case f3=>simp;omega
     case next=>
      intro v' w7 hown hgrow hnil hat
      have hx7:Ext W w7:=grown_ext (hx.trans EX) hgrow (fun g hg=>(own_lt (HOW.out wo (Ext.refl _)) hg).1);have HUR:Hid (Hs.Own 2 rngC W.heap.size 54 w7 v' (es.map (fun e:Ent=>(e.dlo,e.dhi))++(ps.take (k+1)).map (fun p:Par=>(p.slo,p.shi)))):=hHd (by rw [HL1.out,HT.out];exact Hs.Own.next hown (by rw [HL.out];have:=HM.out;omega) rfl);clear hnil hat hgrow;rcases own_open hown with ⟨-,h0⟩|⟨g',cap,rfl,-,-,-,-⟩
      ·omega
      ·clear hown; have hm' := HM.out; (go_wp2_with fail); go_roundw
       case rel=>exact⟨k+1,m+1,_,_,by omega,by omega,by go_num,rfl,HUR,hx7⟩
       case measure=>simp [intOf];omega
    ·obtain rfl : k = ps.length := by omega
     have HO2:=HO.out;rw [List.take_length] at HO2;have HM3:m=es.length+ps.length:=by omega
     have HOR:=hHd HO2;clear HO2 HO hm;(go_wp2_with fail);go_loopw [2,40] (fun s2 s40 wr=>∃(k m:Nat) (a5:Option Addr) (q5:Nat),k≤cs.length∧m=es.length+ps.length+k∧s40= .int .i64 k∧s2= .slice a5 m q5∧Hid (Hs.Own 2 rngC W.heap.size 54 wr (.slice a5 m q5) ((es.map (fun e:Ent=>(e.dlo,e.dhi))++ps.map (fun p:Par=>(p.slo,p.shi)))++(cs.take k).map (fun x:Cov=>(x.slo,x.shi))))∧Ext W wr) (fun _ s _=>cs.length - (intOf s).toNat)
     case atStart=>exact⟨0,m,a5,q5,Nat.zero_le _,by omega,rfl,rfl,hHd (by rw [List.take_zero,List.map_nil,List.append_nil];exact HOR.out),hx⟩
     case round=>
      obtain⟨k,m,a5,q5,hk,hm,rfl,rfl,HO,hx⟩:=hrel;obtain⟨wo,rfl⟩:∃x,x=wr:=⟨_,rfl⟩;obtain⟨⟨q0,q1,q2,q3,q4,q5',q6,q7,q8,q9,q10⟩,-⟩:=HS.out wo hx;by_cases hlt:k<cs.length
      ·obtain ⟨b', off, rfl, hce⟩ := HV.out wo (X.trans hx) k (by simpa using hlt); have e1 : (cs.map Cov.c)[k]'(by simpa using hlt) = (cs[k]).c := by simp
       rw [e1] at hce;have HT:Hid ((es.map (fun e:Ent=>(e.dlo,e.dhi))++ps.map (fun p:Par=>(p.slo,p.shi)))++(cs.take (k+1)).map (fun x:Cov=>(x.slo,x.shi))=((es.map (fun e:Ent=>(e.dlo,e.dhi))++ps.map (fun p:Par=>(p.slo,p.shi)))++(cs.take k).map (fun x:Cov=>(x.slo,x.shi)))++ [(fun x:Cov=>(x.slo,x.shi)) cs[k]]):=hHd (by rw [List.take_succ_eq_append_getElem hlt,List.map_append,←List.append_assoc];rfl);have HL:Hid (((es.map (fun e:Ent=>(e.dlo,e.dhi))++ps.map (fun p:Par=>(p.slo,p.shi)))++(cs.take k).map (fun x:Cov=>(x.slo,x.shi))).length=es.length+ps.length+k):=hHd (by simp;omega);generalize (es.map (fun e:Ent=>(e.dlo,e.dhi))++ps.map (fun p:Par=>(p.slo,p.shi)))++(cs.take k).map (fun x:Cov=>(x.slo,x.shi))=l0 at*;generalize hl1:(es.map (fun e:Ent=>(e.dlo,e.dhi))++ps.map (fun p:Par=>(p.slo,p.shi)))++(cs.take (k+1)).map (fun x:Cov=>(x.slo,x.shi))=l1 at*;have HL1:=hHd hl1;clear hl1;generalize cs[k]=en at*;obtain⟨so,ow,pa,su,ti,dl,dh⟩:=en;obtain⟨m0,m1,m2,m3,m4,m5,m6⟩:=hce;simp only [Cov.c] at m0 m1 m2 m3 m4 m5 m6 HT;clear e1;have hk0:(0:Int)≤(k:Int):=by omega
       have hk1:(k:Int)<(cs.length:Int):=by omega
       have hsz:W.heap.size≤wo.heap.size:=hx.size
       have HOW:Hid (∀w',Ext wo w'→w'.ownsRow W.heap.size 54 2 (.slice a5 m q5) m (l0.flatMap rngC)):=hHd (fun w' h=>by
        have:=Hs.Own.ext HO.out h;unfold Hs.Own at this;rw [HL.out,←hm] at this;exact this)
       have HM:=hHd hm;clear hm;go_wp2_with (at_builtin;refine wpList_append_own_at _ rfl _ _ 151 rfl W.heap.size 54 i1 (.agg #[.int .i64 0,.int .i64 0]) 2 16 Tryz.underlying151 hi1 hz10 hz11 hz12 rfl (by decide) (.slice a5 m q5) m (l0.flatMap rngC) rfl ?own ⟨wo.heap.size+1,0,none⟩ 1 1 [.int .i64 dl,.int .i64 dh] rfl rfl (cells_two (Ext.refl _) (by simp)) ?one ?f1 ?f2 ?f3 ?next)
       case own=>exact HOW.out _ EX
       case one=>intro u hu;simp only [List.mem_cons,List.not_mem_nil,or_false] at hu;rcases hu with rfl|rfl<;>rfl
       case f1=>have:=HM.out;simp only [maxLen];omega
       case f2=>have:=HM.out;omega
       case f3=>simp;omega
       case next=>
        intro v' w7 hown hgrow hnil hat
        have hx7:Ext W w7:=grown_ext (hx.trans EX) hgrow (fun g hg=>(own_lt (HOW.out wo (Ext.refl _)) hg).1);have HUR:Hid (Hs.Own 2 rngC W.heap.size 54 w7 v' ((es.map (fun e:Ent=>(e.dlo,e.dhi))++ps.map (fun p:Par=>(p.slo,p.shi)))++(cs.take (k+1)).map (fun x:Cov=>(x.slo,x.shi)))):=hHd (by rw [HL1.out,HT.out];exact Hs.Own.next hown (by rw [HL.out];have:=HM.out;omega) rfl);clear hnil hat hgrow;rcases own_open hown with ⟨-,h0⟩|⟨g',cap,rfl,-,-,-,-⟩
        ·omega
        ·clear hown; have hm' := HM.out; (go_wp2_with fail); go_roundw
         case rel=>exact⟨k+1,m+1,_,_,by omega,by omega,by go_num,rfl,HUR,hx7⟩
         case measure=>simp [intOf];omega
      ·obtain rfl : k = cs.length := by omega
       have HL:Hid (((es.map (fun e:Ent=>(e.dlo,e.dhi))++ps.map (fun p:Par=>(p.slo,p.shi)))++cs.map (fun x:Cov=>(x.slo,x.shi))).length=es.length+ps.length+cs.length):=hHd (by simp;omega)
       have HF:Hid (m=es.length+ps.length+cs.length∧Hs.Own 2 rngC W.heap.size 54 wo (.slice a5 m q5) ((es.map (fun e:Ent=>(e.dlo,e.dhi))++ps.map (fun p:Par=>(p.slo,p.shi)))++cs.map (fun x:Cov=>(x.slo,x.shi)))):=hHd (by
        have h:=HO.out;rw [List.take_length] at h;exact⟨by omega,h⟩)
       have HRL:Hid (rs.length=es.length+ps.length+cs.length+1):=hHd (by rw [HR.out,List.length_append,HL.out];rfl);generalize (es.map (fun e:Ent=>(e.dlo,e.dhi))++ps.map (fun p:Par=>(p.slo,p.shi)))++cs.map (fun x:Cov=>(x.slo,x.shi))=l0 at*
       have HOW:Hid (∀w',Ext wo w'→w'.ownsRow W.heap.size 54 2 (.slice a5 m q5) m (l0.flatMap rngC)):=hHd (fun w' h=>by
        have:=Hs.Own.ext HF.out.2 h;unfold Hs.Own at this;rw [HL.out,←HF.out.1] at this;exact this)
       have hsz:W.heap.size≤wo.heap.size:=hx.size;have HM:=hHd HF.out.1;clear hm HO;go_wp2_with (at_builtin;refine wpList_append_own_at _ rfl _ _ 151 rfl W.heap.size 54 i1 (.agg #[.int .i64 0,.int .i64 0]) 2 16 Tryz.underlying151 hi1 hz10 hz11 hz12 rfl (by decide) (.slice a5 m q5) m (l0.flatMap rngC) rfl ?own ⟨wo.heap.size,0,none⟩ 1 1 [.int .i64 llo,.int .i64 lhi] rfl rfl (cells_two (Ext.refl _) (by simp)) ?one ?f1 ?f2 ?f3 ?next)
       case own=>exact HOW.out _ EX
       case one=>intro u hu;simp only [List.mem_cons,List.not_mem_nil,or_false] at hu;rcases hu with rfl|rfl<;>rfl
       case f1=>have:=HM.out;simp only [maxLen];omega
       case f2=>have:=HM.out;omega
       case f3=>simp;omega
       case next=>
        intro v' w7 hown hgrow hnil hat
        have hx7:Ext W w7:=grown_ext (hx.trans EX) hgrow (fun g hg=>(own_lt (HOW.out wo (Ext.refl _)) hg).1);have HUR:Hid (Hs.Own 2 rngC W.heap.size 54 w7 v' rs):=hHd (by rw [HR.out];exact Hs.Own.next hown (by rw [HL.out];have:=HM.out;omega) rfl);clear hnil hat hgrow;rcases own_open hown with ⟨-,h0⟩|⟨g',cap,rfl,-,-,-,-⟩
        ·omega
        ·clear hown; have hm' : m + 1 = rs.length := by rw [HRL.out, HM.out]
         rw [hm'] at HUR;have HM':=hHd hm';clear hm';(go_wp2_with fail);rw [HM'.out];go_ret;exact⟨_,_,rfl,HUR.out.base X.size,X.trans hx7⟩
theorem clone_x (v : Value) (xs : List Int) (w : World) (hv : IntsV w v xs) (hl : xs.length ≤ 1000) :
    Calls Tryz.prog 66 #[v] w fun e w'=>∃v',e= .returned v'∧w'.ownsRow w.heap.size 3 1 v' xs.length (xs.map (.int .i64))∧Ext w w':=by
  obtain⟨a,c,rfl,h1,h2,hr⟩:=hv;obtain⟨i0,hi,hz0,hz1,hz2⟩:=info_parts info_int;by_cases h0:xs= []
  · subst h0; cases a with
    | none =>
      have hnl:∀w,(binOp .eql 22 (.slice none 0 c) (.slice none 0 0)).run Tryz.prog w= .ok (.bool true) w:=fun w=>Lib.run_eql_slice_nil w _ _ none 0 c 0 0 Tryz.underlying22
      go_enter Tryz.func66,Tryz.ntmps66
      (go_wp2_with fail);go_ret;exact⟨_,rfl,World.ownsRow_nil _ _ _ _,EX⟩
    | some p =>
      have hnl:∀w,(binOp .eql 22 (.slice (some p) 0 c) (.slice none 0 0)).run Tryz.prog w= .ok (.bool false) w:=fun w=>Lib.run_eql_slice_nil w _ _ (some p) 0 c 0 0 Tryz.underlying22
      go_enter Tryz.func66,Tryz.ntmps66
      go_wp2_with (at_builtin;refine wpList_append_none rfl _ _ 22 rfl 3 i0 Tryz.underlying22 hi _ _ _ _ _ (Nat.le_refl _) rfl rfl ?_)
      go_ret;exact⟨_,rfl,⟨rfl,.inr ⟨_,_,_,rfl,Nat.le_refl _,heap_alloc_new _ _,Nat.le_refl _,by simp,rfl,rfl⟩⟩,EX⟩
  · have hpos : 0 < xs.length := List.length_pos_iff.2 h0; obtain ⟨b, off, rfl, hc⟩ := hr 0 hpos; have HR := hHd hr; have H0 := hHd h0; clear hr h0 hc; have hnl : ∀ w, (binOp .eql 22 (.slice (some ⟨b, off, none⟩) xs.length c) (.slice none 0 0)).run Tryz.prog w = .ok (.bool false) w := fun w => Lib.run_eql_slice_nil w _ _ (some ⟨b, off, none⟩) xs.length c 0 0 Tryz.underlying22
    go_enter Tryz.func66,Tryz.ntmps66
    go_wp2_with (at_builtin;refine wpList_append_own_at _ rfl _ _ 22 rfl w.heap.size 3 i0 (.int .i64 0) 1 8 Tryz.underlying22 hi hz0 hz1 hz2 rfl (by decide) (.slice (some ⟨w.heap.size,0,none⟩) 0 0) 0 [] rfl ?own ⟨b,off,none⟩ xs.length c (xs.map (.int .i64)) rfl ?len ?cells ?one ?fit1 ?fit2 ?fit3 ?next)
    case own=>exact⟨rfl,.inr ⟨_,_,_,rfl,Nat.le_refl _,heap_alloc_new _ _,Nat.le_refl _,by simp,rfl,rfl⟩⟩
    case len=>simp
    case cells=>
      intro j u hj
      have hj':j<xs.length:=by
        rcases Nat.lt_or_ge j xs.length with h|h
        · exact h
        · rw [List.getElem?_eq_none (by simpa using h)] at hj;cases hj
      have:=(Rows.at HR.out j hj').1;rw [add_none'];simp [hj'] at hj
      rw [←hj];exact((Ext.refl w).alloc _).keep (by simpa using this)
    case one=>
      intro u hu
      obtain⟨x,-,rfl⟩:=List.mem_map.1 hu;rfl
    case fit1=>simp only [maxLen];omega
    case fit2=>omega
    case fit3=>simp
    case next=>
      intro v' w' hown hgrow hnil hat
      have hx:Ext w w':=grown_ext ((Ext.refl w).alloc _) hgrow (fun g hg=>by simp [Value.ownBlock] at hg;omega);have OWN:Hid (w'.ownsRow w.heap.size 3 1 v' xs.length (xs.map (.int .i64))):=hHd (by simpa using hown);rcases own_open hown with ⟨-,h0⟩|⟨g,cap,rfl,hB,hlt,hcap,hcells⟩
      · omega
      · clear hnil hat hown hgrow;(go_wp2_with fail);go_ret;exact⟨_,rfl,OWN.out,hx⟩
end Go.Proofs.YtegkdnfeceomdaaGreat
namespace Go.Hs
open Go.RowKit
structure RanC (b:Nat) (lo hi:Int) (w:World):Prop where
 lo:w.cell? ⟨b,0,none⟩=some (.int .i64 lo)
 hi:w.cell? ⟨b,1,none⟩=some (.int .i64 hi)
theorem RanC.below {b n:Nat} {lo hi:Int} {w w':World} (h:RanC b lo hi w) (hx:Below n w w') (hb:b<n):RanC b lo hi w':=
 ⟨(hx.cell (p:=⟨b,0,none⟩) hb).trans h.lo,(hx.cell (p:=⟨b,1,none⟩) hb).trans h.hi⟩
theorem RanC.kept {b n:Nat} {lo hi:Int} {w w':World} (h:RanC b lo hi w) (hx:Kept n w w') (hb:n≤b):RanC b lo hi w':=⟨hx.cell hb h.lo,hx.cell hb h.hi⟩
end Go.Hs
namespace Go.Proofs.YtegkdnfeceomdaaGreat
open Go.RowKit Go.Hs
attribute [local irreducible] World.setCell World.alloc
attribute [local go_sem] Oper.semAt_some
attribute [local simp] wide_fn wide_fn' wide_depth wide_round
attribute [local go_sem] wide_fn wide_fn' wide_depth wide_round
structure TrO (L B:Nat) (al ah:Int) (W':World):Prop where
 y:W'.cell? ⟨B,0,none⟩=some (.func (.yield L) #[] #[])
 a:RanC (B+1) al ah W'
 s:B+2≤W'.heap.size
theorem TrO.below {L B n:Nat} {al ah:Int} {w w':World} (h:TrO L B al ah w) (hx:Below n w w') (hn:B+2≤n):TrO L B al ah w':=
 ⟨(hx.cell (p:=⟨B,0,none⟩) (by show B<n;omega)).trans h.y,h.a.below hx (by omega),Nat.le_trans h.s hx.size⟩
theorem TrO.kept {L B n:Nat} {al ah:Int} {w w':World} (h:TrO L B al ah w) (hx:Kept n w w') (hn:n≤B):TrO L B al ah w':=
 ⟨hx.cell hn h.y,h.a.kept hx (by omega),Nat.le_trans h.s hx.1⟩
def NumC (b:Nat) (x:Int) (w:World):Prop:=w.cell? ⟨b,0,none⟩=some (.int .i64 x)
theorem NumC.below {b n:Nat} {x:Int} {w w':World} (h:NumC b x w) (hx:Below n w w') (hb:b<n):NumC b x w':=(hx.cell (p:=⟨b,0,none⟩) hb).trans h
structure TrB (L B:Nat) (al ah:Int) (ba:Nat) (xa:Int) (br:Nat) (bl bh:Int) (D:Nat) (W2 W':World):Prop where
 o:TrO L B al ah W'
 a:NumC ba xa W'
 r:RanC br bl bh W'
 k:Kept D W2 W'
theorem TrB.below {L B:Nat} {al ah:Int} {ba:Nat} {xa:Int} {br:Nat} {bl bh:Int} {D n:Nat} {W2 w w':World} (h:TrB L B al ah ba xa br bl bh D W2 w) (hx:Below n w w')
  (h1:B+2≤n) (h2:ba<n) (h3:br<n) (h4:W2.heap.size≤n):TrB L B al ah ba xa br bl bh D W2 w':=
 ⟨h.o.below hx h1,h.a.below hx h2,h.r.below hx h3,h.k.below hx h4⟩
theorem NumC.kept {b n:Nat} {x:Int} {w w':World} (h:NumC b x w) (hx:Kept n w w') (hb:n≤b):NumC b x w':=hx.cell hb h
theorem TrB.kept {L B:Nat} {al ah:Int} {ba:Nat} {xa:Int} {br:Nat} {bl bh:Int} {D n:Nat} {W2 w w':World} (h:TrB L B al ah ba xa br bl bh D W2 w) (hx:Kept n w w')
  (h1:n≤B) (h2:n≤ba) (h3:n≤br) (h4:n≤D):TrB L B al ah ba xa br bl bh D W2 w':=
 ⟨h.o.kept hx h1,h.a.kept hx h2,h.r.kept hx h3,h.k.trans (hx.mono h4)⟩
theorem RoundIn.inR {P:Program} {L:Nat} {f:FuncId} {t:Array Value} {a b:Code} {w:World} {R:Ending→World→Prop} (l:Nat) (h:RoundIn Fence.wide 0 P L f t a b w R):RoundIn (Fence.wide.inRound l) 0 P L f t a b w R:=h
end Go.Proofs.YtegkdnfeceomdaaGreat
namespace Go.Proofs.YtegkdnfeceomdaaGreat
open Go.RowKit Go.Hs
def ofB (lo hi most:Int):Bool:=decide (0≤lo)&&decide (lo≤hi)&&decide (hi≤most)
abbrev spotV (a b c:Int):Value:= .agg #[.int .i64 a,.int .i64 b,.int .i64 c]
def Memo (f:Int→Int→Int→Int) (r:Nat) (w:World):Prop:=
 ∃es clock,w.heap[r]?=some (.map es clock)∧∀e∈es.toList,∃a b c,e.key=spotV a b c∧e.val= .int .i64 (f a b c)
theorem Memo.noCells {f:Int→Int→Int→Int} {r:Nat} {w:World} (h:Memo f r w):NoCells w r:=fun o=>by
 obtain⟨es,clock,hr,-⟩:=h;simp [World.cell?,hr]
theorem Memo.ext {f:Int→Int→Int→Int} {r:Nat} {w w':World} (h:Memo f r w) (hx:Ext w w'):Memo f r w':=by
 obtain⟨es,clock,hr,he⟩:=h;exact⟨es,clock,by rw [hx.heap (Array.getElem?_eq_some_iff.1 hr).1];exact hr,he⟩
theorem Memo.lt {f:Int→Int→Int→Int} {r:Nat} {w:World} (h:Memo f r w):r<w.heap.size:=by
 obtain⟨es,clock,hr,-⟩:=h;exact(Array.getElem?_eq_some_iff.1 hr).1
structure WorkAt (l:List Tar) (p r:Nat) (v:Value) (w:World):Prop where
 list:w.cell? ⟨p,0,none⟩=some v
 known:w.cell? ⟨p,1,none⟩=some (.map (some r))
 tars:TarsV w v l
 memo:Memo (partS l) r w
theorem WorkAt.ext {l:List Tar} {p r:Nat} {v:Value} {w w':World} (h:WorkAt l p r v w) (hx:Ext w w'):WorkAt l p r v w':=
 ⟨hx.keep h.list,hx.keep h.known,h.tars.ext hx,h.memo.ext hx⟩
theorem WorkAt.but {l:List Tar} {p r:Nat} {v:Value} {w w':World} (h:WorkAt l p r v w) (hx:ExtBut r w w') (hm:Memo (partS l) r w'):WorkAt l p r v w':=
 have k:=hx.kc h.memo.noCells;⟨k _ _ _ h.list,k _ _ _ h.known,h.tars.kc k,hm⟩
end Go.Proofs.YtegkdnfeceomdaaGreat
namespace Go.Proofs.YtegkdnfeceomdaaGreat
open Go.RowKit Go.Hs
attribute [local irreducible] World.setCell World.alloc
structure Cla where
 crop:Int
 value:Int
 dlo:Int
 dhi:Int
 clo:Int
 chi:Int
abbrev Cla.u (c:Cla):V6:=⟨.int .i64 c.crop,.int .i64 c.value,.int .i64 c.dlo,.int .i64 c.dhi,.int .i64 c.clo,.int .i64 c.chi⟩
def claimB (l:List Tar) (c:Cla):Bool:=
 inR c.crop 0 ((cropsN l:Int) - 1)&&inR c.value 0 100000&&ofB c.dlo c.dhi 120&&decide (c.dhi - c.dlo≤10)&&ofB c.clo c.chi 100
def payS (l:List Tar) (c:Cla) (d n:Int):Int:=payI c.value (partS l c.crop d n)
structure ClaimOK (l:List Tar) (c:Cla):Prop where
 crop:0≤c.crop∧c.crop<cropsN l
 value:0≤c.value∧c.value≤100000
 day:0≤c.dlo∧c.dlo≤c.dhi∧c.dhi≤120
 ten:c.dhi - c.dlo≤10
 count:0≤c.clo∧c.clo≤c.chi∧c.chi≤100
def askS1 (l:List Tar) (c:Cla):Int:=if checkS l≠0 then checkS l else if claimB l c then 0 else 2
def truthB (c:Cla) (d n:Int):Bool:=inR d c.dlo c.dhi&&inR n c.clo c.chi
def payN (l:List Tar) (c:Cla) (d n:Int):Int:=if askS1 l c=0 then (if truthB c d n then payS l c d n else 0) else 0
end Go.Proofs.YtegkdnfeceomdaaGreat
namespace Go.Hs
open Go.RowKit Go.Proofs.YtegkdnfeceomdaaGreat
def claimF (c:Cas) (f:Fld) (n:Int):Cla:=⟨f.crop,f.value,c.day,c.day,n,n⟩
def payC (c:Cas) (f:Fld) (n:Int):Int:=payN c.tars (claimF c f n) c.day n
instance:Inhabited Fld:=⟨⟨0,0,0,0,0,0,0,0,0⟩⟩
instance:Inhabited Thr:=⟨⟨0,0,0⟩⟩
structure FldOK (l:List Tar) (f:Fld):Prop where
 crop:0≤f.crop∧f.crop<cropsN l
 value:0≤f.value∧f.value≤100000
 near:0≤f.near∧f.near≤100
 a:0≤f.alo∧f.alo≤f.ahi∧f.ahi≤100∧f.ahi - f.alo≤4
 b:0≤f.blo∧f.blo≤f.bhi∧f.bhi≤100∧f.bhi - f.blo≤4
 u:0≤f.ulo∧f.ulo≤f.uhi∧f.uhi≤100∧f.uhi - f.ulo≤4
structure CasOK (c:Cas):Prop where
 tars:ValidL c.tars
 few:c.flds.length≤3
 day:0≤c.day∧c.day≤120
 fee:0≤c.fee∧c.fee≤10000
 flds:∀f∈c.flds,FldOK c.tars f
structure ThrOK (f:Fld) (x:Thr):Prop where
 a:f.alo≤x.a∧x.a≤f.ahi
 b:f.blo≤x.b∧x.b≤f.bhi
 u:f.ulo≤x.u∧x.u≤f.uhi
structure Out where
 pay:Int
 loser:Nat
def outS (c:Cas) (f:Fld) (x:Thr):Out:=⟨payC c f (settledS f x),loserS f x⟩
structure Sm where
 award:Int
 e0:Int
 e1:Int
 e2:Int
 e3:Int
def Sm.zero:Sm:=⟨0,0,0,0,0⟩
def Sm.plus (s:Sm) (o:Out):Sm:=
 ⟨s.award+o.pay,if o.loser=0 then s.e0+1 else s.e0,if o.loser=1 then s.e1+1 else s.e1,if o.loser=2 then s.e2+1 else s.e2,if o.loser=3 then s.e3+1 else s.e3⟩
def calledS (s:Sm):Bool:=decide (0<s.e1+s.e2+s.e3)
def feeA (fee:Int) (s:Sm):Int:=if calledS s then (if s.e3<s.e2 then fee else if s.e2<s.e3 then 0 else fee - fee / 2) else 0
def feeB (fee:Int) (s:Sm):Int:=if calledS s then (if s.e3<s.e2 then 0 else if s.e2<s.e3 then fee else fee / 2) else 0
def sumT (c:Cas) (fs:List Fld) (t:List Thr):Sm:=(fs.zip t).foldl (fun s p=>s.plus (outS c p.1 p.2)) Sm.zero
structure EndsOf (S:Int→Prop) (lo hi:Int):Prop where
 mn:S lo
 mx:S hi
 all:∀x,S x→lo≤x∧x≤hi
theorem EndsOf.congr {S T:Int→Prop} {a b:Int} (h:EndsOf S a b) (e:∀x,S x↔T x):EndsOf T a b:=
 ⟨(e _).1 h.mn,(e _).1 h.mx,fun x hx=>h.all x ((e x).2 hx)⟩
end Go.Hs
namespace Go.Proofs.YtegkdnfeceomdaaGreat
open Go.RowKit Go.Hs
attribute [local irreducible] World.setCell World.alloc
end Go.Proofs.YtegkdnfeceomdaaGreat
namespace Go.Hs
open Go.RowKit
abbrev casV (a1:Option Addr) (n1 c1:Nat) (day fee:Int) (a2:Option Addr) (n2 c2:Nat):Value:= .agg #[.slice a1 n1 c1,.int .i64 day,.int .i64 fee,.slice a2 n2 c2]
theorem CasV.open {w:World} {v:Value} {c:Cas} (h:CasV w v c):∃a1 c1 a2 c2,v=casV a1 c.tars.length c1 c.day c.fee a2 c.flds.length c2∧TarsV w (.slice a1 c.tars.length c1) c.tars∧
  FldsV w (.slice a2 c.flds.length c2) c.flds∧Cells9 w a2 (c.flds.map Fld.c)∧c.flds.length≤c2∧c.flds.length≤1000:=by
 obtain⟨vt,vf,rfl,h1,h2⟩:=h;obtain⟨a1,c1,rfl,-⟩:=id h1;obtain⟨a2,c2,rfl,h3,h4,h5⟩:=id h2;exact⟨a1,c1,a2,c2,rfl,h1,h2,h5,h3,h4⟩
end Go.Hs
namespace Go.Proofs.YtegkdnfeceomdaaGreat
open Go.RowKit Go.Hs
attribute [local irreducible] World.setCell World.alloc
end Go.Proofs.YtegkdnfeceomdaaGreat
namespace Go.Proofs.YtegkdnfeceomdaaGreat
open Go.RowKit Go.Hs
end Go.Proofs.YtegkdnfeceomdaaGreat
namespace Go.Proofs.YtegkdnfeceomdaaGreat
open Go.RowKit Go.Hs
attribute [local irreducible] World.setCell World.alloc
end Go.Proofs.YtegkdnfeceomdaaGreat
