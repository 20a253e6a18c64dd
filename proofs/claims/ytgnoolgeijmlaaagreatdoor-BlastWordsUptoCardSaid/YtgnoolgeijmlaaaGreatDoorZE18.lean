/- Part 18 of the proof (In, Io, Ip); no condition. -/
import Derived.Test.YtgnoolgeijmlaaaGreatDoorZE17
set_option linter.unusedVariables false
set_option linter.unusedSimpArgs false
set_option maxRecDepth 8000
namespace Go.Proofs.YtgnoolgeijmlaaaGreatDoor.Bl
open Sm Bins Cov Xe Wd Go.Proofs.YtgnoolgeijmlaaaGreatDoor.Bd Go.RowKit
open Bool renaming or_false→jV,not_false→jC,or_true→qP,not_true→jZ
open List renaming replicate→jJ,length_map→jR,contains_cons→jW,contains_nil→jI,getElem?_cons_succ→jU,getElem?_cons_zero→jT,map_cons→jF,map_nil→jE,append_nil→jD,length_append→zT,getElem?_set_ne→jS
open Nat renaming le_of_ble_eq_true→jH,zero_add→jG,reduceBEq→jK,reduceEqDiff→jA,le_refl→jP,reduceAdd→jM,add_zero→jL
open Option renaming getD_some→jB,getD_none→jO
theorem A42 (h:Hp)(n:Nat)(hn:n<=1048576):IX Tryz.prog true h 84 (.int .i64 (n:Int)) (.int .i64 (n:Int))=some (.own h.length 0 n,h++[.live 5 ((jJ n (⟨0,0,0,0,0⟩:Kn)).map KF)]):=by
 have hz:N9 Tryz.prog 179=some (KF ⟨0,0,0,0,0⟩):=by kernel_rfl
 have hr:room n 40:=OX (by omega) (by omega);unfold IX;simp only[A37,AIG,A5J,hz,Int.toNat_natCast];rw[if_pos ⟨by omega,Int.le_refl _,hr,by kernel_rfl⟩];simp
def r0 (p:Pr):List AV:=EE p++[lvV p]
theorem A5S (nb ba bk n a k:Nat)(p:Pr):KD Tryz.prog 86 [(0,.own nb 0 n),(1,.own ba 0 a),(2,.own bk 0 k),(3,.agg (EE p)),(4,lvV p)]=some (.agg (.own nb 0 n :: .own ba 0 a :: .own bk 0 k::(r0 p++[.int .i64 0]))):=by
 obtain⟨lm,k',xs,e⟩:∃lm k' xs,lvV p=.sl lm k' xs:=by unfold lvV; split<;>exact⟨_,_,_,rfl⟩
 unfold r0;rw[e]
 kernel_rfl
theorem AR5 (p:Pr):AV.leaf (lvV p)=true:=by unfold lvV; split<;>rfl
theorem A5O (h:Hp)(nb ba bk n a k:Nat)(p:Pr):MG h (.agg (.own nb 0 n :: .own ba 0 a :: .own bk 0 k::(r0 p++[.int .i64 0])))=some (.ptr h.length 0 0,h++[.live 10 [.own nb 0 n :: .own ba 0 a :: .own bk 0 k::(r0 p++[.int .i64 0])]]):=by
 have:=WO (h:=h) (cs:=.own nb 0 n :: .own ba 0 a :: .own bk 0 k::(r0 p++[.int .i64 0])) (by
  simp only[List.all_cons,List.all_append,r0,AL2,AR5,List.all_nil]; rfl)
 exact this
def Lf (A:Hp)(zN zA zK:ABlk)(p:Pr)(n:Nat)(v:AV)(H:Hp):Prop:=∃bb ba bk nb,v=.ptr bb 0 0∧H[bb]?=some (.live 10 [.own nb 0 n :: .own ba 0 32768 :: .own bk 0 32768::(r0 p++[.int .i64 0])])∧H[nb]?=some zN∧H[ba]?=some zA∧H[bk]?=some zK∧Sm.ext A H∧A.length<=bb∧A.length<=ba∧A.length<=bk∧A.length<=nb
theorem Lf.mk {A:Hp}{zN zA zK:ABlk}{p:Pr}{n:Nat}{v:AV}{H:Hp}(h:∃bb ba bk nb,v=.ptr bb 0 0∧H[bb]?=some (.live 10 [.own nb 0 n :: .own ba 0 32768 :: .own bk 0 32768::(r0 p++[.int .i64 0])])∧H[nb]?=some zN∧H[ba]?=some zA∧H[bk]?=some zK∧Sm.ext A H∧A.length<=bb∧A.length<=ba∧A.length<=bk∧A.length<=nb):Lf A zN zA zK p n v H:=h
section
variable (G:Nat->AV)
set_option maxHeartbeats 8000000 in
theorem AP9 (p:Pr)(hs:PrS p)(l:Dg)(v:VD l)(m:SM)(h:Hp):ACalls (En G) 43 [dgA m l,.agg (EE p)] h fun u H=>∃bb ba bk nb,u=.ptr bb 0 0∧RS bb ba bk (r0 p) nb l false H∧h.length<=bb∧h.length<=ba∧h.length<=bk∧h.length<=nb∧Sm.ext h H:=by
 refine IV (H:=hint [10,11,12,15] []) (enM G) Tryz.func43 rfl (by kernel_rfl) (by kernel_rfl) (jH (by kernel_rfl)) ?_;show awp _ _ _ _ _ (EK _ [.tmp 4] _);have mx:=v.mx;have two:=v.two;obtain⟨zN,hN⟩:∃z:ABlk,z=.live 3 (l.map DY):=⟨_,rfl⟩
 obtain⟨zA,hA⟩:∃z:ABlk,z=.live 1 ((jJ 32768 (0:Int)).map qencI):=⟨_,rfl⟩
 obtain⟨zK,hK⟩:∃z:ABlk,z=.live 5 ((jJ 32768 (⟨0,0,0,0,0⟩:Kn)).map KF):=⟨_,rfl⟩
 have mkA:∀h:Hp,IX Tryz.prog true h 29 (.int .i64 32768) (.int .i64 32768)=some (.own h.length 0 32768,h++[zA]):=fun h=>by rw[hA]; exact ANO h 32768 (by decide)
 have mkK:∀h:Hp,IX Tryz.prog true h 84 (.int .i64 32768) (.int .i64 32768)=some (.own h.length 0 32768,h++[zK]):=fun h=>by rw[hK]; exact A42 h 32768 (by decide)
 have mkN:∀h:Hp,IP Tryz.prog true h 33 33 (.sl .full 3 []) (.sl m 3 (l.map DY))=some (.own h.length 0 l.length,h++[zN]):=fun h=>by
  have:=AKF (P:=Tryz.prog) (t:=33) (h:=h) (xs:=[]) (x:=.sl m 3 (l.map DY)) AOX P7 AUL AWZ (KJ _ _ _ _) (by intro q; have:=congrArg List.length q; simp at this; rw[this] at two; simp at two) ⟨by simp; omega,by simp; omega⟩;rw[jR,List.length_nil,jG,List.nil_append] at this;rw[hN]; exact this
 unfold dgA;have q0:(h++[ABlk.live 1 [[.sl m 3 (l.map DY)]]]++[ABlk.live 5 [EE p]])[h.length]?=some (.live 1 [[.sl m 3 (l.map DY)]]):=BO (CU _ _);have q1:(h++[ABlk.live 1 [[.sl m 3 (l.map DY)]]]++[ABlk.live 5 [EE p]])[(h++[ABlk.live 1 [[.sl m 3 (l.map DY)]]]).length]?=some (.live 5 [EE p]):=CU _ _;have hx:Sm.ext h (h++[ABlk.live 1 [[.sl m 3 (l.map DY)]]]++[ABlk.live 5 [EE p]]):=((ext.rfl' h).app _).app _;have bx35:MG h (.agg [.sl m 3 (l.map DY)])=some (.ptr h.length 0 0,h++[.live 1 [[.sl m 3 (l.map DY)]]]):=WO rfl;simp -implicitDefEqProofs only[vQ,jW,jI,jK,jV,BD,SQ,↓reduceIte,jA,enP,bx35,UN];generalize h++[ABlk.live 1 [[.sl m 3 (l.map DY)]]]++[ABlk.live 5 [EE p]]=A at q0 q1 hx|-;generalize (h++[ABlk.live 1 [[.sl m 3 (l.map DY)]]]).length=pb at q1|-;generalize hdb:h.length=db at q0|-;have l0:∀ {H:Hp},H[db]?=some (.live 1 [[.sl m 3 (l.map DY)]])->DF Tryz.prog H 33 (.ptr db 0 0)=some (.sl m 3 (l.map DY)):=fun q=>by rw[DJ AE5 q rfl]; rfl
 have l1:∀ {H:Hp},H[pb]?=some (.live 5 [EE p])->DF Tryz.prog H 27 (.ptr pb 0 0)=some (.agg (EE p)):=fun q=>by rw[GV UY TF q (row:=EE p) rfl (by rw[JE]; exact jP 5)]; rfl
 have lv:=ALI G p hs;refine UU (fun F H=>Lf A zN zA zK p l.length (F 5) H) (fun _ _=>False) ?_ ?_ (fun _ _ q=>q.elim)
 .refine EW (.ones [0,1,2] (.alt 3 (.ones [7,8,6] (.alt 4 (.ones [5,9,10,11] .done) (.alt 5 (.ones [4,9,10,11] .done) (.non)))) (.alt 4 (.alt 3 (.ones [7,8,6,5,9,10,11] .done) (.alt 5 (.alt 3 (.ones [7,8,6,9,10,11] .done) (.alt 6 (.alt 3 (.ones [7,8,9,10,11] .done) (.alt 7 (.ones [3,8,9,10,11] .done) (.non))) (.alt 7 (.alt 3 (.ones [8,6,9,10,11] .done) (.alt 6 (.ones [3,8,9,10,11] .done) (.non))) (.non)))) (.alt 6 (.alt 3 (.ones [7,8,5,9,10,11] .done) (.alt 5 (.alt 3 (.ones [7,8,9,10,11] .done) (.alt 7 (.ones [3,8,9,10,11] .done) (.non))) (.alt 7 (.alt 3 (.ones [8,5,9,10,11] .done) (.alt 5 (.ones [3,8,9,10,11] .done) (.non))) (.non)))) (.alt 7 (.alt 3 (.ones [8,6,5,9,10,11] .done) (.alt 5 (.alt 3 (.ones [8,6,9,10,11] .done) (.alt 6 (.ones [3,8,9,10,11] .done) (.non))) (.alt 6 (.alt 3 (.ones [8,5,9,10,11] .done) (.alt 5 (.ones [3,8,9,10,11] .done) (.non))) (.non)))) (.non))))) (.alt 5 (.alt 3 (.ones [7,8,6,4,9,10,11] .done) (.alt 4 (.alt 3 (.ones [7,8,6,9,10,11] .done) (.alt 6 (.alt 3 (.ones [7,8,9,10,11] .done) (.alt 7 (.ones [3,8,9,10,11] .done) (.non))) (.alt 7 (.alt 3 (.ones [8,6,9,10,11] .done) (.alt 6 (.ones [3,8,9,10,11] .done) (.non))) (.non)))) (.alt 6 (.alt 3 (.ones [7,8,4,9,10,11] .done) (.alt 4 (.alt 3 (.ones [7,8,9,10,11] .done) (.alt 7 (.ones [3,8,9,10,11] .done) (.non))) (.alt 7 (.alt 3 (.ones [8,4,9,10,11] .done) (.alt 4 (.ones [3,8,9,10,11] .done) (.non))) (.non)))) (.alt 7 (.alt 3 (.ones [8,6,4,9,10,11] .done) (.alt 4 (.alt 3 (.ones [8,6,9,10,11] .done) (.alt 6 (.ones [3,8,9,10,11] .done) (.non))) (.alt 6 (.alt 3 (.ones [8,4,9,10,11] .done) (.alt 4 (.ones [3,8,9,10,11] .done) (.non))) (.non)))) (.non))))) (.alt 6 (.alt 3 (.ones [7,8] (.alt 4 (.ones [5,9,10,11] .done) (.alt 5 (.ones [4,9,10,11] .done) (.non)))) (.alt 4 (.alt 3 (.ones [7,8,5,9,10,11] .done) (.alt 5 (.alt 3 (.ones [7,8,9,10,11] .done) (.alt 7 (.ones [3,8,9,10,11] .done) (.non))) (.alt 7 (.alt 3 (.ones [8,5,9,10,11] .done) (.alt 5 (.ones [3,8,9,10,11] .done) (.non))) (.non)))) (.alt 5 (.alt 3 (.ones [7,8,4,9,10,11] .done) (.alt 4 (.alt 3 (.ones [7,8,9,10,11] .done) (.alt 7 (.ones [3,8,9,10,11] .done) (.non))) (.alt 7 (.alt 3 (.ones [8,4,9,10,11] .done) (.alt 4 (.ones [3,8,9,10,11] .done) (.non))) (.non)))) (.alt 7 (.alt 3 (.ones [8] (.alt 4 (.ones [5,9,10,11] .done) (.alt 5 (.ones [4,9,10,11] .done) (.non)))) (.alt 4 (.alt 3 (.ones [8,5,9,10,11] .done) (.alt 5 (.ones [3,8,9,10,11] .done) (.non))) (.alt 5 (.alt 3 (.ones [8,4,9,10,11] .done) (.alt 4 (.ones [3,8,9,10,11] .done) (.non))) (.non)))) (.non))))) (.alt 7 (.alt 3 (.ones [8,6] (.alt 4 (.ones [5,9,10,11] .done) (.alt 5 (.ones [4,9,10,11] .done) (.non)))) (.alt 4 (.alt 3 (.ones [8,6,5,9,10,11] .done) (.alt 5 (.alt 3 (.ones [8,6,9,10,11] .done) (.alt 6 (.ones [3,8,9,10,11] .done) (.non))) (.alt 6 (.alt 3 (.ones [8,5,9,10,11] .done) (.alt 5 (.ones [3,8,9,10,11] .done) (.non))) (.non)))) (.alt 5 (.alt 3 (.ones [8,6,4,9,10,11] .done) (.alt 4 (.alt 3 (.ones [8,6,9,10,11] .done) (.alt 6 (.ones [3,8,9,10,11] .done) (.non))) (.alt 6 (.alt 3 (.ones [8,4,9,10,11] .done) (.alt 4 (.ones [3,8,9,10,11] .done) (.non))) (.non)))) (.alt 6 (.alt 3 (.ones [8] (.alt 4 (.ones [5,9,10,11] .done) (.alt 5 (.ones [4,9,10,11] .done) (.non)))) (.alt 4 (.alt 3 (.ones [8,5,9,10,11] .done) (.alt 5 (.ones [3,8,9,10,11] .done) (.non))) (.alt 5 (.alt 3 (.ones [8,4,9,10,11] .done) (.alt 4 (.ones [3,8,9,10,11] .done) (.non))) (.non)))) (.non))))) (.non))))))) (by kernel_rfl) ?_
  simp only[DN,IE,jU,jT];simp -implicitDefEqProofs only[vQ,jW,jI,jK,jV,qP,KZ,ABJ,JJ,AF4,JV,MC,↓reduceIte,jA,jM,enP,NR,ATS,l0 q0];have a1:∀x:ABlk,DF Tryz.prog (A++[x]) 27 (.ptr pb 0 0)=some (.agg (EE p)):=fun x=>l1 (BO q1)
  have a2:∀x y:ABlk,DF Tryz.prog (A++[x]++[y]) 27 (.ptr pb 0 0)=some (.agg (EE p)):=fun x y=>l1 (BO (BO q1))
  have a3:∀x y z:ABlk,DF Tryz.prog (A++[x]++[y]++[z]) 27 (.ptr pb 0 0)=some (.agg (EE p)):=fun x y z=>l1 (BO (BO (BO q1)))
  have a0:=l1 q1;have hcb:∀(nb ba bk n a k:Nat),(.own nb 0 n :: .own ba 0 a :: .own bk 0 k::(r0 p++[.int .i64 0]):List AV)=.own nb 0 n :: .own ba 0 a :: .own bk 0 k::(r0 p++[.int .i64 0]):=fun _ _ _ _ _ _=>rfl
  repeat' first
   | with_reducible exact trivial
   | ((with_reducible refine Lf.mk ?_); exact⟨_,_,_,_,rfl,CU _ _,by first|exact BO (CU _ _)|exact BO (BO (CU _ _))|exact BO (BO (BO (CU _ _))),by first|exact BO (CU _ _)|exact BO (BO (CU _ _))|exact BO (BO (BO (CU _ _))),by first|exact BO (CU _ _)|exact BO (BO (CU _ _))|exact BO (BO (BO (CU _ _))),
       ((((ext.rfl' A).app _).app _).app _).app _,by simp only[zT,List.length_singleton]; omega,by first|exact jP _|(simp only[zT,List.length_singleton]; omega),by first|exact jP _|(simp only[zT,List.length_singleton]; omega),by first|exact jP _|(simp only[zT,List.length_singleton]; omega)⟩)
   | with_reducible exact fun x=>lv _
   | with_reducible refine And.intro ?_ ?_
   | with_reducible refine Exists.intro (lvV p) (And.intro ?_ ?_)
   | (simp -implicitDefEqProofs only[vQ,jW,jI,jK,jV,qP,AQL,YJ,ABJ,AF4,JV,↓reduceIte,jA,jM,enP,mkN,mkA,mkK,a0,a1,a2,a3,A5S,A5O,ATS,l0 q0])
 rintro F H ⟨bb,ba,bk,nb,f5,hbb,hnb,hba,hbk,hxe,b1,b2,b3,b4⟩;have hlt:=hx.le;have e5:(cB ba bk nb l.length (r0 p) false)=.own nb 0 l.length :: .own ba 0 32768 :: .own bk 0 32768::(r0 p++[.int .i64 0]):=rfl;rw[<-e5] at hbb;rw[hN] at hnb;rw[hA,<-AH9] at hba;rw[hK] at hbk;have n1:ba≠bb:=fun q=>by rw[q,hbb] at hba; cases hba
 have n2:ba≠bk:=fun q=>by rw[q,hbk] at hba; cases hba
 have n3:ba≠nb:=fun q=>by rw[q,hnb] at hba; cases hba
 simp -implicitDefEqProofs only[vQ,jW,jI,jK,jV,BD,f5];refine GI 0 (fun F H'=>∃A',F 5=.ptr bb 0 0∧H'[bb]?=some (.live 10 [cB ba bk nb l.length (r0 p) false])∧H'[nb]?=some (.live 3 (l.map DY))∧H'[bk]?=some (.live 5 ((jJ 32768 (⟨0,0,0,0,0⟩:Kn)).map KF))∧isI H' ba (wI A')∧AtI l l.length A'∧Sm.ext A H') (fun _ _=>False) ?_ ?_ (fun _ _ q=>q.elim)
 .refine D7 (fun n F H'=>∃i A',n+i=l.length∧F 5=.ptr bb 0 0∧F 6=.int .i64 (i:Nat)∧2<=i∧H'[bb]?=some (.live 10 [cB ba bk nb l.length (r0 p) false])∧H'[nb]?=some (.live 3 (l.map DY))∧H'[bk]?=some (.live 5 ((jJ 32768 (⟨0,0,0,0,0⟩:Kn)).map KF))∧isI H' ba (wI A')∧AtI l i A'∧Sm.ext A H') (l.length-2)
   ⟨2,_,by omega,by simp -implicitDefEqProofs only[AA,↓reduceIte,jA]; exact f5,by simp -implicitDefEqProofs only[AA,↓reduceIte]; rfl,jP 2,hbb,hnb,hbk,hba,AtI.zero l,hxe⟩ ?_
  clear hbb hnb hba hbk hxe f5;rintro n F H' ⟨i,A',hn,f5,f6,h2,hbb,hnb,hbk,hba,hat,hxe⟩;have ec:decide (((i:Nat):Int)<((l.length:Nat):Int))=decide (i<l.length):=by rw[decide_eq_decide]; omega
  simp -implicitDefEqProofs only[vQ,jW,jI,jK,jV,BD,↓reduceIte,jA,enP,SX,RF,f5,f6,AJ4 hbb,ec];refine C9 (fun hc=>?_) (fun hc=>?_)
  .have hi:i<l.length:=by simpa using hc
   have nd:=AR1 hnb hi;have lvi:=v.lv_le hi;have ndk:=v.at h2 hi;have hplace:=AFJ G hbb hnb hba hat (Nat.le_of_lt hi) mx (nth l i) lvi (by omega) (by omega);simp -implicitDefEqProofs only[vQ];refine EW (.ones [0,1,2,4,5,6,7,8,9,10,11,13] (.alt 3 (.alt 12 (.ones [14,15] .done) .non) (.alt 12 (.ones [3,14,15] .done) .non))) (by kernel_rfl) ?_;simp only[DN,IE,jU,jT]
   have fin:∀s,(∀t,t<s->¬stp l A' (nth l i) ((hsh (nth l i)+t)%32768))->stp l A' (nth l i) ((hsh (nth l i)+s)%32768)->J8 1 H' (.own ba 0 32768) (iA ((hsh (nth l i)+s)%32768))=some (.ptr ba ((hsh (nth l i)+s)%32768) 0) ∧
     FO Tryz.prog H' 3 (.ptr ba ((hsh (nth l i)+s)%32768) 0) (.int .i64 (i:Nat))=some (H'.set ba (.live 1 ((wI (A'.set ((hsh (nth l i)+s)%32768) i)).map qencI)))∧AtI l (i+1) (A'.set ((hsh (nth l i)+s)%32768) i):=by
    intro s hs hst;have hjl:(hsh (nth l i)+s)%32768<32768:=Nat.mod_lt _ (by decide)
    have h0:A'.getD ((hsh (nth l i)+s)%32768) 0=0:=by
     rcases hst with q|q
     .exact q
     .rcases Nat.eq_zero_or_pos (A'.getD ((hsh (nth l i)+s)%32768) 0) with z|z
      .exact z
      .have hr:=hat.rg _ (by omega:A'.getD ((hsh (nth l i)+s)%32768) 0≠0)
       have e1:=v.fnd (i:=i) (by rw[QN hi]);have e2:=v.fnd (i:=A'.getD ((hsh (nth l i)+s)%32768) 0) (n:=nth l i) (by rw[QN (by omega),q]);rw[e1] at e2;have:i=A'.getD ((hsh (nth l i)+s)%32768) 0:=by injection e2
       omega
    have hst':=hba.st (i:=(hsh (nth l i)+s)%32768) (by rw[MJ,hat.len]; exact hjl) ((i:Nat):Int);rw[AKT] at hst';exact⟨hba.ix (n:=32768) (kk:=.i64) hjl,hst',hat.put (by omega) hs h0 rfl⟩
   have done:∀A2:List Nat,(H'.set ba (.live 1 ((wI A2).map qencI)))[bb]?=some (.live 10 [cB ba bk nb l.length (r0 p) false])∧(H'.set ba (.live 1 ((wI A2).map qencI)))[nb]?=some (.live 3 (l.map DY))∧(H'.set ba (.live 1 ((wI A2).map qencI)))[bk]?=some (.live 5 ((jJ 32768 (⟨0,0,0,0,0⟩:Kn)).map KF))∧isI (H'.set ba (.live 1 ((wI A2).map qencI))) ba (wI A2)∧Sm.ext A (H'.set ba (.live 1 ((wI A2).map qencI))) :=
    fun A2=>⟨by rw[jS n1]; exact hbb,by rw[jS n3]; exact hnb,by rw[jS n2]; exact hbk,DX hba,hxe.set b2 _⟩
   simp -implicitDefEqProofs only[vQ,jW,jI,jK,jV,BD,↓reduceIte,jA,jM,enP,KT,SA,RF,XX,f5,f6,AJ4 hbb,AOG hbb,nd.1,nd.2.1];refine⟨⟨hplace.use ?_,trivial⟩,hplace.use ?_,trivial⟩
   all_goals
    rintro _ ⟨s,rfl,hs,hst⟩;obtain⟨g1,g2,g3⟩:=fin s hs hst;obtain⟨d1,d2,d3,d4,d5⟩:=done (A'.set ((hsh (nth l i)+s)%32768) i);simp -implicitDefEqProofs only[vQ,jW,jI,jK,jV,BD,↓reduceIte,jA,jM,enP,KT,jO,f5,f6,AOG hbb,g1,g2,wrap_succ (show i<9223372036854775807 by omega)];exact⟨n-1,by omega,i+1,_,by omega,by trivial,by trivial,by omega,d1,d2,d3,d4,g3,d5⟩
  .have hi:i=l.length:=by have:¬i<l.length:=by simpa using hc
                          omega
   subst hi;simp -implicitDefEqProofs only[vQ,↓reduceIte,jA];exact⟨A',f5,hbb,hnb,hbk,hba,hat,hxe⟩
 .clear hbb hnb hba hbk hxe f5
  rintro F H' ⟨A',f5,hbb,hnb,hbk,hba,hat,hxe⟩;simp -implicitDefEqProofs only[vQ,jW,jI,jK,jV,BD,↓reduceIte,f5];exact⟨bb,ba,bk,nb,by trivial,⟨hbb,hnb,⟨A',hba,hat.len,fun _=>hat⟩,⟨_,hbk,by rw[List.length_replicate],fun _=>KI.zero l⟩,v,rfl⟩,by omega,by omega,by omega,by omega,hx.trans hxe⟩
end
theorem AU4 {l:Dg}(v:VD l)(p:Pr)(e:Ex):stE (l.map Nd.raw) p e=wrg p e:=by
 rw[YQ v];unfold sE wrg;by_cases h1:NJ p=0
 .by_cases h2:exE e=0
  .rw[if_pos h1,if_pos h2,if_pos ⟨h1,h2⟩]
  .rw[if_pos h1,if_neg h2,if_neg (fun q=>h2 q.2)]
 .rw[if_neg h1,if_neg (fun q=>h1 q.1)]
theorem RPk.of {p:Pr}(h:NJ p=0):RPk p (KN p) .any (r0 p):=⟨by unfold r0 lvV; rw[if_pos h],(PV.of h).pok,by rw[Y3]⟩
section
variable (G:Nat->AV)
set_option maxHeartbeats 8000000 in
theorem AUC (R:List Rn)(m:SM)(hR:R.length<=1048576)(p:Pr)(hs:PrS p)(e:Ex)(hw:wt e<=1048576)(h:Hp):QCall (En G) 21 [.agg [.sl m 3 (R.map ER)],.agg (EE p),.agg (EF e)] h (Z9 R p e):=by
 refine ACalls.pureQ 4 (R:=fun v H=>ext h H∧((Z9 R p e v∧∃k,v=.tup [zD,.sl .nil 0 [],.int .i64 k])∨(stE R p e=0∧∃l,R=l.map Nd.raw∧VD l∧∃w l' nb,RV p (KN p) e l=some (w,l')∧h.length<=nb∧H[nb]?=some (.live 3 (l'.map DY))∧v=.tup [.agg [.own nb 0 l'.length],wS w,.int .i64 0]))) ?_ ?H
 case H =>
  rintro v H ⟨hx,⟨hq,k,rfl⟩|⟨h0,l,hl,vl,w,l',nb,hw,ho,hb,rfl⟩⟩
  .exact⟨hx,hq⟩
  .refine⟨hx,.inr ⟨h0,l,hl,vl,.inr ⟨w,l',.any,hw,?_⟩⟩⟩
   have:=UK (d:=0) (n:=h.length) AX9 ho hb;show AV.tup [.agg [JS h.length H 2 (.own nb 0 l'.length)],_,_]=_;rw[this]; rfl
 refine acN Tryz.func21 rfl ?_;show awp _ _ _ _ _ (EK _ [.cell 6 35,.tmp 7,.tmp 8] _);simp -implicitDefEqProofs only[vQ,BD,↓reduceIte,jA,enP,UO,UN,bxE,TB];generalize hX:h++[ABlk.live 1 [[.sl m 3 (R.map ER)]]]++[ABlk.live 5 [EE p]]++[ABlk.live 4 [EF e]]++[ABlk.live 1 [[.sl .nil 0 []]]]=X;have hx:ext h X:=by rw[<-hX]; exact((((ext.rfl' h).app _).app _).app _).app _
 have q3:X[h.length]?=some (.live 1 [[.sl m 3 (R.map ER)]]):=by rw[<-hX]; exact BO (BO (BO (CU _ _)))
 have q4:X[h.length+1]?=some (.live 5 [EE p]):=by rw[<-hX]; exact BO (BO (HY (by simp)))
 have q5:X[h.length+2]?=some (.live 4 [EF e]):=by rw[<-hX]; exact BO (HY (by simp))
 have q6:X[h.length+3]?=some (.live 1 [[.sl .nil 0 []]]):=by rw[<-hX]; exact HY (by simp)
 have e1:(h++[ABlk.live 1 [[AV.sl m 3 (R.map ER)]]]).length=h.length+1:=by simp
 have e2:(h++[ABlk.live 1 [[AV.sl m 3 (R.map ER)]]]++[ABlk.live 5 [EE p]]).length=h.length+2:=by simp
 have e3:(h++[ABlk.live 1 [[AV.sl m 3 (R.map ER)]]]++[ABlk.live 5 [EE p]]++[ABlk.live 4 [EF e]]).length=h.length+3:=by simp
 have e4:X.length=h.length+4:=by rw[<-hX]; simp
 rw[e1,e2,e3];clear hX;have ldp:DF Tryz.prog X 27 (.ptr (h.length+1) 0 0)=some (.agg (EE p)):=by rw[GV UY TF q4 (row:=EE p) rfl (by rw[JE]; exact jP 5)]; rfl
 simp -implicitDefEqProofs only[vQ,BD,↓reduceIte,JK q3];refine(AIB G R m hR X).use ?_;have bad:∀k:Int,stE R p e=k->k≠0->Z9 R p e (.tup [zD,.sl .nil 0 [],.int .i64 k]):=fun k hk hn=>.inl ⟨by rw[hk]; exact hn,by rw[hk]⟩
 cases hv:vdR R with
 | false =>
   simp -implicitDefEqProofs only[vQ,BD,↓reduceIte,jA,enP,jO,VV,LZ q6];rw[JG _ _ _ _ _ _ _ _ _ _ _ (show _=AV.ptr (h.length+3) 0 0 by simp -implicitDefEqProofs only[AA,↓reduceIte,jA]),JK (DX q6)];simp -implicitDefEqProofs only[AA,↓reduceIte,jA];exact⟨_,rfl,hx.set (by omega) _,.inl ⟨bad 1 (by unfold stE; rw[if_neg (by rw[hv]; decide)]) (by decide),_,rfl⟩⟩
 | true =>
 obtain⟨l,vl,rfl⟩:=AXR hv;have hst:=AU4 vl p e;rw[WE] at q3;simp -implicitDefEqProofs only[vQ,BD,↓reduceIte,jA,jZ,enP,ldp,JH q5];refine(AUT G p hs e hw X).use ?_;by_cases hne:wrg p e=0
 case neg =>
  have hc:(wrg p e != 0)=true:=by simpa using hne
  simp -implicitDefEqProofs only[vQ,BD,↓reduceIte,jA,enP,jO,hc,VV,LZ q6];rw[JG _ _ _ _ _ _ _ _ _ _ _ (show _=AV.ptr (h.length+3) 0 0 by simp -implicitDefEqProofs only[AA,↓reduceIte,jA]),JK (DX q6)];simp -implicitDefEqProofs only[AA,↓reduceIte,jA];exact⟨_,rfl,hx.set (by omega) _,.inl ⟨bad _ hst hne,_,rfl⟩⟩
 rw[hne] at hst;obtain⟨hv0,hx0,hok⟩:=AGQ hst;simp -implicitDefEqProofs only[vQ,BD,↓reduceIte,jA,enP,hne,show((0:Int) != 0)=false from rfl,JK q3,ldp];refine ACalls.mono (AP9 G p hs l vl m X) ?_;rintro _ H1 ⟨bb,ba,bk,nb,rfl,s,b1,b2,b3,b4,hx1⟩;have q5:=F8 hx1 q5;have q6:=F8 hx1 q6;simp -implicitDefEqProofs only[vQ,BD,↓reduceIte,jA,enP,JH q5];refine(A1A G (RPk.of hv0) hs.vars e hok (AHH hx0) nb l false H1 s).use (k:=fun w=>ret w) (TOT:=rn (RV p (KN p) e) l false) (VE _ _ _) ?_;rintro w l1 e1' nb1 _ H2 he2 x2 ⟨rfl,hw16⟩ ow hS2 s2 k2;have q6:=k2.keep _ _ q6 (by simp; omega) (by omega)
 have nn2:h.length+3≠nb1:=by
  have:=hx1.le;have:=CB s.n;rcases k2.nn with q|q<;>omega
 have hkH:∀(B:ABlk),ext h (H2.set (h.length+3) B):=fun B=>ADV (fun k y q=>by
  have hk:=CB q;rw[jS (by omega)]
  exact k2.keep _ _ (F8 hx1 (F8 hx q)) (by simp; omega) (by omega)) (by rw[List.length_set]; have:=k2.len; have:=hx1.le; omega)
 cases e1' with
 | true =>
   have hnone:RV p (KN p) e l=none:=hS2.symm;simp -implicitDefEqProofs only[vQ,BD,↓reduceIte,jA,enP,XW,s2.le,show((2:Int) != 0)=true from rfl];refine EW (.ones [0,1,2,3] (.alt 4 (.ones [5,6,7] .done) (.alt 5 (.ones [4,6,7] .done) .non))) (by kernel_rfl) ?_;simp only[DN,IE,jU,jT];have sS:=fun B=>s2.set (c:=h.length+3) (by omega) (by omega) (by omega) nn2 B
   simp -implicitDefEqProofs only[vQ,YJ,↓reduceIte,jA,jM,enP,XW,jO,VV,s2.le,LZ q6,(sS _).le,show((2:Int) != 0)=true from rfl,and_true];refine⟨?_,?_⟩
   all_goals
    rw[JG _ _ _ _ _ _ _ _ _ _ _ (show _=AV.ptr (h.length+3) 0 0 by simp -implicitDefEqProofs only[AA,↓reduceIte,jA]),JK (DX q6)];simp -implicitDefEqProofs only[AA,↓reduceIte,jA];exact⟨_,rfl,hkH _,.inl ⟨.inr ⟨hst,l,rfl,vl,.inl ⟨hnone,rfl⟩⟩,_,rfl⟩⟩
 | false =>
   have hsome:RV p (KN p) e l=some (w,l1):=hS2.symm;simp -implicitDefEqProofs only[vQ,BD,↓reduceIte,jA,enP,RF,XW,jO,Bool.false_eq_true,s2.le,show((0:Int) != 0)=false from rfl,s2.ll,AYH,ANA q6];rw[JG _ _ _ _ _ _ _ _ _ _ _ (show _=AV.ptr (h.length+3) 0 0 by simp -implicitDefEqProofs only[AA,↓reduceIte,jA]),JK (DX q6)];simp -implicitDefEqProofs only[AA,↓reduceIte,jA];refine⟨_,rfl,hkH _,.inr ⟨hst,l,rfl,vl,w,l1,nb1,hsome,?_,?_,rfl⟩⟩
   .rcases k2.nn with q|q
    .have:=hx.le; omega
    .have:=hx.le; have:=hx1.le; omega
   .rw[jS nn2]
    exact s2.n
end
theorem AE8 {R:List Rn}{p:Pr}{e:Ex}{v u:AV}(hv:Z9 R p e v)(hu:Z9 R p e u) :
  ∃m1 k1 r1 m2 k2 r2 s1 s2 D xs k,v=.tup [.agg [.sl m1 k1 r1],s1,.int .i64 k]∧u=.tup [.agg [.sl m2 k2 r2],s2,.int .i64 k]∧isD (.agg [.sl m1 k1 r1]) D∧isD (.agg [.sl m2 k2 r2]) D∧isS s1 xs∧isS s2 xs∧D.length<=1048576∧xs.length<=1048576:=by
 have nilS:=isS.nil .nil 0;rcases hv with⟨n1,rfl⟩|⟨z1,l,rfl,vl,h1⟩
 .rcases hu with⟨_,rfl⟩|⟨z2,_⟩
  .exact⟨_,_,_,_,_,_,_,_,[],[],_,rfl,rfl,isD.nil,isD.nil,nilS,nilS,by simp,by simp⟩
  .exact absurd z2 n1
 .rcases hu with⟨n2,_⟩|⟨_,l2,hl2,_,h2⟩
  .exact absurd z1 n2
  obtain rfl:=TI hl2;rcases h1 with⟨q1,rfl⟩|⟨w,l',m,q1,rfl⟩
  .rcases h2 with⟨_,rfl⟩|⟨w2,l2',m2,q2,rfl⟩
   .exact⟨_,_,_,_,_,_,_,_,[],[],_,rfl,rfl,isD.nil,isD.nil,nilS,nilS,by simp,by simp⟩
   .rw[q1] at q2; cases q2
  .rcases h2 with⟨q2,_⟩|⟨w2,l2',m2,q2,rfl⟩
   .rw[q1] at q2; cases q2
   .rw[q1] at q2
    cases q2;obtain⟨hv0,hx0,hok⟩:=AGQ z1;obtain⟨v',x',_,⟨w16,ow⟩,_⟩:=TY (lvs:=KN p) (A53 hv0) e hok l vl w l' q1;exact⟨_,_,_,_,_,_,_,_,l'.map Nd.raw,wI w,_,rfl,rfl,isD.dg m l',isD.dg m2 l',isS.of _ _,isS.of _ _,by rw[jR]; have:=v'.mx; omega,by rw[MJ,w16]; decide⟩
section
variable (G:Nat->AV)
set_option maxHeartbeats 4000000 in
theorem A0K (hG:GOk G)(R:List Rn)(m:SM)(hR:R.length<=1048576)(p:Pr)(hs:PrS p)(e:Ex)(hw:wt e<=1048576)(h:Hp):PCall (En G) 6 [.agg [.sl m 3 (R.map ER)],.agg (EE p),.agg (EF e)] h (.bool true):=by
 refine ACalls.pure0 rfl ?_;refine acN Tryz.func6 rfl ?_;show awp _ _ _ _ _ (EK _ [.tmp 6] _);simp -implicitDefEqProofs only[vQ,BD,↓reduceIte,jA,enP,UO,UN,bxE];generalize hX:h++[ABlk.live 1 [[.sl m 3 (R.map ER)]]]++[ABlk.live 5 [EE p]]++[ABlk.live 4 [EF e]]=X;have hx:ext h X:=by rw[<-hX]; exact(((ext.rfl' h).app _).app _).app _
 have q3:X[h.length]?=some (.live 1 [[.sl m 3 (R.map ER)]]):=by rw[<-hX]; exact BO (BO (CU _ _))
 have q4:X[h.length+1]?=some (.live 5 [EE p]):=by rw[<-hX]; exact BO (HY (by simp))
 have q5:X[h.length+2]?=some (.live 4 [EF e]):=by rw[<-hX]; exact HY (by simp)
 have e1:(h++[ABlk.live 1 [[AV.sl m 3 (R.map ER)]]]).length=h.length+1:=by simp
 have e2:(h++[ABlk.live 1 [[AV.sl m 3 (R.map ER)]]]++[ABlk.live 5 [EE p]]).length=h.length+2:=by simp
 rw[e1,e2];clear hX;simp -implicitDefEqProofs only[vQ,BD,↓reduceIte,jA,enP,JK q3,AZM q4,JH q5];refine(AO4 G p hs e hw (isD.of m R) X).use ?_;rintro v ⟨b,rfl⟩;cases b
 .simp -implicitDefEqProofs only[vQ,BD,↓reduceIte]
  refine(AF8 G hG X).use ?_;simp -implicitDefEqProofs only[vQ,BD,↓reduceIte];exact⟨by trivial,hx⟩
 simp -implicitDefEqProofs only[vQ,BD,↓reduceIte,jA,jZ,enP,JK q3,AZM q4,JH q5];refine(AQF G hG R m hR p hs e hw X).use ?_;intro v hv;have pure2:=fun X'=>AUC G R m hR p hs e hw X'
 have hex:∃u,Z9 R p e u:=⟨v,hv⟩
 obtain⟨m1,k1,r1,_,_,_,s1,_,D1,x1,k,hv1,_⟩:=AE8 hv hv;rw[hv1] at hv|-;have q3:=BO (x:=ABlk.live 1 [[.sl m1 k1 r1]]) q3;have q4:=BO (x:=ABlk.live 1 [[.sl m1 k1 r1]]) q4;have q5:=BO (x:=ABlk.live 1 [[.sl m1 k1 r1]]) q5;have q7:=CU X (ABlk.live 1 [[.sl m1 k1 r1]]);have hx:=hx.app [ABlk.live 1 [[.sl m1 k1 r1]]];simp -implicitDefEqProofs only[vQ,jT,jU,BD,↓reduceIte,jA,enP,jO,TB,stT,JK q3,AZM q4,JH q5];generalize X++[ABlk.live 1 [[.sl m1 k1 r1]]]=Y at q3 q4 q5 q7 hx|-;refine(pure2 Y).use ?_;intro u hu;obtain⟨m1',k1',r1',m2,k2,r2,s1',s2,D,xs,k',hv2,rfl,d1,d2,i1,i2,hD,hxs⟩:=AE8 hv hu
 injection hv2 with hv2
 injection hv2 with c1 hv2
 injection hv2 with c2 hv2
 injection hv2 with c3 _
 rw[<-c1] at d1;rw[<-c2] at i1;have c3:k=k':=by injection c3
 subst c3;have q8:=CU Y (ABlk.live 1 [[.sl m2 k2 r2]]);have q7:=BO (x:=ABlk.live 1 [[.sl m2 k2 r2]]) q7;simp -implicitDefEqProofs only[vQ,jT,jU,BD,↓reduceIte,jA,enP,jO,TB,stT,JK q7,JK q8];refine(ARA G d1 d2 hD hD _).use ?_;rw[decide_eq_true rfl];simp -implicitDefEqProofs only[vQ,CV,BD,↓reduceIte,jA];refine(YT G i1 i2 hxs hxs _).use ?_;rw[decide_eq_true rfl];simp -implicitDefEqProofs only[vQ,CV,BD,↓reduceIte,jA,enP,show(k==k)=true by simp];refine(AF8 G hG _).use ?_;simp -implicitDefEqProofs only[vQ,BD,↓reduceIte,jA];exact⟨by trivial,hx.app _⟩
end
end Go.Proofs.YtgnoolgeijmlaaaGreatDoor.Bl
