/- Part 17 of the proof (In, Io, Ip); no condition. -/
import Derived.Test.YtgnoolgeijmlaaaGreatDoorZF16
set_option linter.unusedVariables false
set_option linter.unusedSimpArgs false
set_option maxRecDepth 8000
namespace Go.Proofs.YtgnoolgeijmlaaaGreatDoor.Bl
open Sm Bins Cov Xe Wd Go.Proofs.YtgnoolgeijmlaaaGreatDoor.Bd Go.RowKit
open Bool renaming or_false→jV,not_false→jC,or_true→qP,not_true→jZ
open List renaming replicate→jJ,length_map→jR,contains_cons→jW,contains_nil→jI,getElem?_cons_succ→jT,getElem?_cons_zero→jS,map_cons→jF,map_nil→jE,append_nil→jD,length_append→zT,getElem?_set_ne→jU
open Nat renaming le_of_ble_eq_true→jH,zero_add→jG,reduceBEq→jL,reduceEqDiff→jA,le_refl→jQ,reduceAdd→jM,add_zero→jK
open Option renaming getD_some→jB,getD_none→jO
theorem A4Z (h:Hp)(n:Nat)(hn:n<=1048576):IV Tryz.prog true h 84 (.int .i64 (n:Int)) (.int .i64 (n:Int))=some (.own h.length 0 n,h++[.live 5 ((jJ n (⟨0,0,0,0,0⟩:Kn)).map KF)]):=by
 have hz:N9 Tryz.prog 179=some (KF ⟨0,0,0,0,0⟩):=by kernel_rfl
 have hr:room n 40:=OX (by omega) (by omega);unfold IV;simp only[A34,AIC,A5F,hz,Int.toNat_natCast];rw[if_pos ⟨by omega,Int.le_refl _,hr,by kernel_rfl⟩];simp
def r0 (p:Pr):List AV:=EF p++[lvV p]
theorem A5O (nb ba bk n a k:Nat)(p:Pr):KD Tryz.prog 86 [(0,.own nb 0 n),(1,.own ba 0 a),(2,.own bk 0 k),(3,.agg (EF p)),(4,lvV p)]=some (.agg (.own nb 0 n :: .own ba 0 a :: .own bk 0 k::(r0 p++[.int .i64 0]))):=by
 obtain⟨lm,k',xs,e⟩:∃lm k' xs,lvV p=.sl lm k' xs:=by unfold lvV; split<;>exact⟨_,_,_,rfl⟩
 unfold r0;rw[e]
 kernel_rfl
theorem AR3 (p:Pr):AV.leaf (lvV p)=true:=by unfold lvV; split<;>rfl
theorem A5K (h:Hp)(nb ba bk n a k:Nat)(p:Pr):MF h (.agg (.own nb 0 n :: .own ba 0 a :: .own bk 0 k::(r0 p++[.int .i64 0])))=some (.ptr h.length 0 0,h++[.live 10 [.own nb 0 n :: .own ba 0 a :: .own bk 0 k::(r0 p++[.int .i64 0])]]):=by
 have:=WJ (h:=h) (cs:=.own nb 0 n :: .own ba 0 a :: .own bk 0 k::(r0 p++[.int .i64 0])) (by
  simp only[List.all_cons,List.all_append,r0,AL0,AR3,List.all_nil]; rfl)
 exact this
def Lf (A:Hp)(zN zA zK:ABlk)(p:Pr)(n:Nat)(v:AV)(H:Hp):Prop:=∃bb ba bk nb,v=.ptr bb 0 0∧H[bb]?=some (.live 10 [.own nb 0 n :: .own ba 0 32768 :: .own bk 0 32768::(r0 p++[.int .i64 0])])∧H[nb]?=some zN∧H[ba]?=some zA∧H[bk]?=some zK∧Sm.ext A H∧A.length<=bb∧A.length<=ba∧A.length<=bk∧A.length<=nb
theorem Lf.mk {A:Hp}{zN zA zK:ABlk}{p:Pr}{n:Nat}{v:AV}{H:Hp}(h:∃bb ba bk nb,v=.ptr bb 0 0∧H[bb]?=some (.live 10 [.own nb 0 n :: .own ba 0 32768 :: .own bk 0 32768::(r0 p++[.int .i64 0])])∧H[nb]?=some zN∧H[ba]?=some zA∧H[bk]?=some zK∧Sm.ext A H∧A.length<=bb∧A.length<=ba∧A.length<=bk∧A.length<=nb):Lf A zN zA zK p n v H:=h
section
variable (G:Nat->AV)
set_option maxHeartbeats 8000000 in
theorem AP6 (p:Pr)(hs:PrS p)(l:Dg)(v:VD l)(m:SM)(h:Hp):ACalls (En G) 43 [dgA m l,.agg (EF p)] h fun u H=>∃bb ba bk nb,u=.ptr bb 0 0∧RS bb ba bk (r0 p) nb l false H∧h.length<=bb∧h.length<=ba∧h.length<=bk∧h.length<=nb∧Sm.ext h H:=by
 refine I9 (H:=hint [10,11,12,15] []) (enM G) Tryz.func43 rfl (by kernel_rfl) (by kernel_rfl) (jH (by kernel_rfl)) ?_;show awp _ _ _ _ _ (EK _ [.tmp 4] _);have mx:=v.mx;have two:=v.two;obtain⟨zN,hN⟩:∃z:ABlk,z=.live 3 (l.map D8):=⟨_,rfl⟩
 obtain⟨zA,hA⟩:∃z:ABlk,z=.live 1 ((jJ 32768 (0:Int)).map qencI):=⟨_,rfl⟩
 obtain⟨zK,hK⟩:∃z:ABlk,z=.live 5 ((jJ 32768 (⟨0,0,0,0,0⟩:Kn)).map KF):=⟨_,rfl⟩
 have mkA:∀h:Hp,IV Tryz.prog true h 29 (.int .i64 32768) (.int .i64 32768)=some (.own h.length 0 32768,h++[zA]):=fun h=>by rw[hA]; exact ANL h 32768 (by decide)
 have mkK:∀h:Hp,IV Tryz.prog true h 84 (.int .i64 32768) (.int .i64 32768)=some (.own h.length 0 32768,h++[zK]):=fun h=>by rw[hK]; exact A4Z h 32768 (by decide)
 have mkN:∀h:Hp,IP Tryz.prog true h 33 33 (.sl .full 3 []) (.sl m 3 (l.map D8))=some (.own h.length 0 l.length,h++[zN]):=fun h=>by
  have:=AKA (P:=Tryz.prog) (t:=33) (h:=h) (xs:=[]) (x:=.sl m 3 (l.map D8)) AOV P7 AUI AWU (KJ _ _ _ _) (by intro q; have:=congrArg List.length q; simp at this; rw[this] at two; simp at two) ⟨by simp; omega,by simp; omega⟩;rw[jR,List.length_nil,jG,List.nil_append] at this;rw[hN]; exact this
 unfold dgA;have q0:(h++[ABlk.live 1 [[.sl m 3 (l.map D8)]]]++[ABlk.live 5 [EF p]])[h.length]?=some (.live 1 [[.sl m 3 (l.map D8)]]):=BR (CU _ _);have q1:(h++[ABlk.live 1 [[.sl m 3 (l.map D8)]]]++[ABlk.live 5 [EF p]])[(h++[ABlk.live 1 [[.sl m 3 (l.map D8)]]]).length]?=some (.live 5 [EF p]):=CU _ _;have hx:Sm.ext h (h++[ABlk.live 1 [[.sl m 3 (l.map D8)]]]++[ABlk.live 5 [EF p]]):=((ext.rfl' h).app _).app _;have bx35:MF h (.agg [.sl m 3 (l.map D8)])=some (.ptr h.length 0 0,h++[.live 1 [[.sl m 3 (l.map D8)]]]):=WJ rfl;simp -implicitDefEqProofs only[vQ,jW,jI,jL,jV,BD,SN,↓reduceIte,jA,enP,bx35,U1];generalize h++[ABlk.live 1 [[.sl m 3 (l.map D8)]]]++[ABlk.live 5 [EF p]]=A at q0 q1 hx|-;generalize (h++[ABlk.live 1 [[.sl m 3 (l.map D8)]]]).length=pb at q1|-;generalize hdb:h.length=db at q0|-;have l0:∀ {H:Hp},H[db]?=some (.live 1 [[.sl m 3 (l.map D8)]])->DF Tryz.prog H 33 (.ptr db 0 0)=some (.sl m 3 (l.map D8)):=fun q=>by rw[DJ AE4 q rfl]; rfl
 have l1:∀ {H:Hp},H[pb]?=some (.live 5 [EF p])->DF Tryz.prog H 27 (.ptr pb 0 0)=some (.agg (EF p)):=fun q=>by rw[G7 U4 TU q (row:=EF p) rfl (by rw[JG]; exact jQ 5)]; rfl
 have lv:=ALF G p hs;refine UL (fun F H=>Lf A zN zA zK p l.length (F 5) H) (fun _ _=>False) ?_ ?_ (fun _ _ q=>q.elim)
 .refine EW (.ones [0,1,2] (.alt 3 (.ones [7,8,6] (.alt 4 (.ones [5,9,10,11] .done) (.alt 5 (.ones [4,9,10,11] .done) (.non)))) (.alt 4 (.alt 3 (.ones [7,8,6,5,9,10,11] .done) (.alt 5 (.alt 3 (.ones [7,8,6,9,10,11] .done) (.alt 6 (.alt 3 (.ones [7,8,9,10,11] .done) (.alt 7 (.ones [3,8,9,10,11] .done) (.non))) (.alt 7 (.alt 3 (.ones [8,6,9,10,11] .done) (.alt 6 (.ones [3,8,9,10,11] .done) (.non))) (.non)))) (.alt 6 (.alt 3 (.ones [7,8,5,9,10,11] .done) (.alt 5 (.alt 3 (.ones [7,8,9,10,11] .done) (.alt 7 (.ones [3,8,9,10,11] .done) (.non))) (.alt 7 (.alt 3 (.ones [8,5,9,10,11] .done) (.alt 5 (.ones [3,8,9,10,11] .done) (.non))) (.non)))) (.alt 7 (.alt 3 (.ones [8,6,5,9,10,11] .done) (.alt 5 (.alt 3 (.ones [8,6,9,10,11] .done) (.alt 6 (.ones [3,8,9,10,11] .done) (.non))) (.alt 6 (.alt 3 (.ones [8,5,9,10,11] .done) (.alt 5 (.ones [3,8,9,10,11] .done) (.non))) (.non)))) (.non))))) (.alt 5 (.alt 3 (.ones [7,8,6,4,9,10,11] .done) (.alt 4 (.alt 3 (.ones [7,8,6,9,10,11] .done) (.alt 6 (.alt 3 (.ones [7,8,9,10,11] .done) (.alt 7 (.ones [3,8,9,10,11] .done) (.non))) (.alt 7 (.alt 3 (.ones [8,6,9,10,11] .done) (.alt 6 (.ones [3,8,9,10,11] .done) (.non))) (.non)))) (.alt 6 (.alt 3 (.ones [7,8,4,9,10,11] .done) (.alt 4 (.alt 3 (.ones [7,8,9,10,11] .done) (.alt 7 (.ones [3,8,9,10,11] .done) (.non))) (.alt 7 (.alt 3 (.ones [8,4,9,10,11] .done) (.alt 4 (.ones [3,8,9,10,11] .done) (.non))) (.non)))) (.alt 7 (.alt 3 (.ones [8,6,4,9,10,11] .done) (.alt 4 (.alt 3 (.ones [8,6,9,10,11] .done) (.alt 6 (.ones [3,8,9,10,11] .done) (.non))) (.alt 6 (.alt 3 (.ones [8,4,9,10,11] .done) (.alt 4 (.ones [3,8,9,10,11] .done) (.non))) (.non)))) (.non))))) (.alt 6 (.alt 3 (.ones [7,8] (.alt 4 (.ones [5,9,10,11] .done) (.alt 5 (.ones [4,9,10,11] .done) (.non)))) (.alt 4 (.alt 3 (.ones [7,8,5,9,10,11] .done) (.alt 5 (.alt 3 (.ones [7,8,9,10,11] .done) (.alt 7 (.ones [3,8,9,10,11] .done) (.non))) (.alt 7 (.alt 3 (.ones [8,5,9,10,11] .done) (.alt 5 (.ones [3,8,9,10,11] .done) (.non))) (.non)))) (.alt 5 (.alt 3 (.ones [7,8,4,9,10,11] .done) (.alt 4 (.alt 3 (.ones [7,8,9,10,11] .done) (.alt 7 (.ones [3,8,9,10,11] .done) (.non))) (.alt 7 (.alt 3 (.ones [8,4,9,10,11] .done) (.alt 4 (.ones [3,8,9,10,11] .done) (.non))) (.non)))) (.alt 7 (.alt 3 (.ones [8] (.alt 4 (.ones [5,9,10,11] .done) (.alt 5 (.ones [4,9,10,11] .done) (.non)))) (.alt 4 (.alt 3 (.ones [8,5,9,10,11] .done) (.alt 5 (.ones [3,8,9,10,11] .done) (.non))) (.alt 5 (.alt 3 (.ones [8,4,9,10,11] .done) (.alt 4 (.ones [3,8,9,10,11] .done) (.non))) (.non)))) (.non))))) (.alt 7 (.alt 3 (.ones [8,6] (.alt 4 (.ones [5,9,10,11] .done) (.alt 5 (.ones [4,9,10,11] .done) (.non)))) (.alt 4 (.alt 3 (.ones [8,6,5,9,10,11] .done) (.alt 5 (.alt 3 (.ones [8,6,9,10,11] .done) (.alt 6 (.ones [3,8,9,10,11] .done) (.non))) (.alt 6 (.alt 3 (.ones [8,5,9,10,11] .done) (.alt 5 (.ones [3,8,9,10,11] .done) (.non))) (.non)))) (.alt 5 (.alt 3 (.ones [8,6,4,9,10,11] .done) (.alt 4 (.alt 3 (.ones [8,6,9,10,11] .done) (.alt 6 (.ones [3,8,9,10,11] .done) (.non))) (.alt 6 (.alt 3 (.ones [8,4,9,10,11] .done) (.alt 4 (.ones [3,8,9,10,11] .done) (.non))) (.non)))) (.alt 6 (.alt 3 (.ones [8] (.alt 4 (.ones [5,9,10,11] .done) (.alt 5 (.ones [4,9,10,11] .done) (.non)))) (.alt 4 (.alt 3 (.ones [8,5,9,10,11] .done) (.alt 5 (.ones [3,8,9,10,11] .done) (.non))) (.alt 5 (.alt 3 (.ones [8,4,9,10,11] .done) (.alt 4 (.ones [3,8,9,10,11] .done) (.non))) (.non)))) (.non))))) (.non))))))) (by kernel_rfl) ?_
  simp only[DN,IE,jT,jS];simp -implicitDefEqProofs only[vQ,jW,jI,jL,jV,qP,KY,ABG,JF,AF2,JR,L9,↓reduceIte,jA,jM,enP,NQ,ATQ,l0 q0];have a1:∀x:ABlk,DF Tryz.prog (A++[x]) 27 (.ptr pb 0 0)=some (.agg (EF p)):=fun x=>l1 (BR q1)
  have a2:∀x y:ABlk,DF Tryz.prog (A++[x]++[y]) 27 (.ptr pb 0 0)=some (.agg (EF p)):=fun x y=>l1 (BR (BR q1))
  have a3:∀x y z:ABlk,DF Tryz.prog (A++[x]++[y]++[z]) 27 (.ptr pb 0 0)=some (.agg (EF p)):=fun x y z=>l1 (BR (BR (BR q1)))
  have a0:=l1 q1;have hcb:∀(nb ba bk n a k:Nat),(.own nb 0 n :: .own ba 0 a :: .own bk 0 k::(r0 p++[.int .i64 0]):List AV)=.own nb 0 n :: .own ba 0 a :: .own bk 0 k::(r0 p++[.int .i64 0]):=fun _ _ _ _ _ _=>rfl
  repeat' first
   | with_reducible exact trivial
   | ((with_reducible refine Lf.mk ?_); exact⟨_,_,_,_,rfl,CU _ _,by first|exact BR (CU _ _)|exact BR (BR (CU _ _))|exact BR (BR (BR (CU _ _))),by first|exact BR (CU _ _)|exact BR (BR (CU _ _))|exact BR (BR (BR (CU _ _))),by first|exact BR (CU _ _)|exact BR (BR (CU _ _))|exact BR (BR (BR (CU _ _))),
       ((((ext.rfl' A).app _).app _).app _).app _,by simp only[zT,List.length_singleton]; omega,by first|exact jQ _|(simp only[zT,List.length_singleton]; omega),by first|exact jQ _|(simp only[zT,List.length_singleton]; omega),by first|exact jQ _|(simp only[zT,List.length_singleton]; omega)⟩)
   | with_reducible exact fun x=>lv _
   | with_reducible refine And.intro ?_ ?_
   | with_reducible refine Exists.intro (lvV p) (And.intro ?_ ?_)
   | (simp -implicitDefEqProofs only[vQ,jW,jI,jL,jV,qP,AQI,YH,ABG,AF2,JR,↓reduceIte,jA,jM,enP,mkN,mkA,mkK,a0,a1,a2,a3,A5O,A5K,ATQ,l0 q0])
 rintro F H ⟨bb,ba,bk,nb,f5,hbb,hnb,hba,hbk,hxe,b1,b2,b3,b4⟩;have hlt:=hx.le;have e5:(cB ba bk nb l.length (r0 p) false)=.own nb 0 l.length :: .own ba 0 32768 :: .own bk 0 32768::(r0 p++[.int .i64 0]):=rfl;rw[<-e5] at hbb;rw[hN] at hnb;rw[hA,<-AH5] at hba;rw[hK] at hbk;have n1:ba≠bb:=fun q=>by rw[q,hbb] at hba; cases hba
 have n2:ba≠bk:=fun q=>by rw[q,hbk] at hba; cases hba
 have n3:ba≠nb:=fun q=>by rw[q,hnb] at hba; cases hba
 simp -implicitDefEqProofs only[vQ,jW,jI,jL,jV,BD,f5];refine GH 0 (fun F H'=>∃A',F 5=.ptr bb 0 0∧H'[bb]?=some (.live 10 [cB ba bk nb l.length (r0 p) false])∧H'[nb]?=some (.live 3 (l.map D8))∧H'[bk]?=some (.live 5 ((jJ 32768 (⟨0,0,0,0,0⟩:Kn)).map KF))∧isI H' ba (wI A')∧AtI l l.length A'∧Sm.ext A H') (fun _ _=>False) ?_ ?_ (fun _ _ q=>q.elim)
 .refine D5 (fun n F H'=>∃i A',n+i=l.length∧F 5=.ptr bb 0 0∧F 6=.int .i64 (i:Nat)∧2<=i∧H'[bb]?=some (.live 10 [cB ba bk nb l.length (r0 p) false])∧H'[nb]?=some (.live 3 (l.map D8))∧H'[bk]?=some (.live 5 ((jJ 32768 (⟨0,0,0,0,0⟩:Kn)).map KF))∧isI H' ba (wI A')∧AtI l i A'∧Sm.ext A H') (l.length-2)
   ⟨2,_,by omega,by simp -implicitDefEqProofs only[AA,↓reduceIte,jA]; exact f5,by simp -implicitDefEqProofs only[AA,↓reduceIte]; rfl,jQ 2,hbb,hnb,hbk,hba,AtI.zero l,hxe⟩ ?_
  clear hbb hnb hba hbk hxe f5;rintro n F H' ⟨i,A',hn,f5,f6,h2,hbb,hnb,hbk,hba,hat,hxe⟩;have ec:decide (((i:Nat):Int)<((l.length:Nat):Int))=decide (i<l.length):=by rw[decide_eq_decide]; omega
  simp -implicitDefEqProofs only[vQ,jW,jI,jL,jV,BD,↓reduceIte,jA,enP,SV,RF,f5,f6,AJ0 hbb,ec];refine C9 (fun hc=>?_) (fun hc=>?_)
  .have hi:i<l.length:=by simpa using hc
   have nd:=ARZ hnb hi;have lvi:=v.lv_le hi;have ndk:=v.at h2 hi;have hplace:=AFH G hbb hnb hba hat (Nat.le_of_lt hi) mx (nth l i) lvi (by omega) (by omega);simp -implicitDefEqProofs only[vQ];refine EW (.ones [0,1,2,4,5,6,7,8,9,10,11,13] (.alt 3 (.alt 12 (.ones [14,15] .done) .non) (.alt 12 (.ones [3,14,15] .done) .non))) (by kernel_rfl) ?_;simp only[DN,IE,jT,jS]
   have fin:∀s,(∀t,t<s->¬stp l A' (nth l i) ((hsh (nth l i)+t)%32768))->stp l A' (nth l i) ((hsh (nth l i)+s)%32768)->J6 1 H' (.own ba 0 32768) (iA ((hsh (nth l i)+s)%32768))=some (.ptr ba ((hsh (nth l i)+s)%32768) 0) ∧
     FK Tryz.prog H' 3 (.ptr ba ((hsh (nth l i)+s)%32768) 0) (.int .i64 (i:Nat))=some (H'.set ba (.live 1 ((wI (A'.set ((hsh (nth l i)+s)%32768) i)).map qencI)))∧AtI l (i+1) (A'.set ((hsh (nth l i)+s)%32768) i):=by
    intro s hs hst;have hjl:(hsh (nth l i)+s)%32768<32768:=Nat.mod_lt _ (by decide)
    have h0:A'.getD ((hsh (nth l i)+s)%32768) 0=0:=by
     rcases hst with q|q
     .exact q
     .rcases Nat.eq_zero_or_pos (A'.getD ((hsh (nth l i)+s)%32768) 0) with z|z
      .exact z
      .have hr:=hat.rg _ (by omega:A'.getD ((hsh (nth l i)+s)%32768) 0≠0)
       have e1:=v.fnd (i:=i) (by rw[QN hi]);have e2:=v.fnd (i:=A'.getD ((hsh (nth l i)+s)%32768) 0) (n:=nth l i) (by rw[QN (by omega),q]);rw[e1] at e2;have:i=A'.getD ((hsh (nth l i)+s)%32768) 0:=by injection e2
       omega
    have hst':=hba.st (i:=(hsh (nth l i)+s)%32768) (by rw[NL,hat.len]; exact hjl) ((i:Nat):Int);rw[AKO] at hst';exact⟨hba.ix (n:=32768) (kk:=.i64) hjl,hst',hat.put (by omega) hs h0 rfl⟩
   have done:∀A2:List Nat,(H'.set ba (.live 1 ((wI A2).map qencI)))[bb]?=some (.live 10 [cB ba bk nb l.length (r0 p) false])∧(H'.set ba (.live 1 ((wI A2).map qencI)))[nb]?=some (.live 3 (l.map D8))∧(H'.set ba (.live 1 ((wI A2).map qencI)))[bk]?=some (.live 5 ((jJ 32768 (⟨0,0,0,0,0⟩:Kn)).map KF))∧isI (H'.set ba (.live 1 ((wI A2).map qencI))) ba (wI A2)∧Sm.ext A (H'.set ba (.live 1 ((wI A2).map qencI))) :=
    fun A2=>⟨by rw[jU n1]; exact hbb,by rw[jU n3]; exact hnb,by rw[jU n2]; exact hbk,D7 hba,hxe.set b2 _⟩
   simp -implicitDefEqProofs only[vQ,jW,jI,jL,jV,BD,↓reduceIte,jA,jM,enP,KR,RZ,RF,XT,f5,f6,AJ0 hbb,AOE hbb,nd.1,nd.2.1];refine⟨⟨hplace.use ?_,trivial⟩,hplace.use ?_,trivial⟩
   all_goals
    rintro _ ⟨s,rfl,hs,hst⟩;obtain⟨g1,g2,g3⟩:=fin s hs hst;obtain⟨d1,d2,d3,d4,d5⟩:=done (A'.set ((hsh (nth l i)+s)%32768) i);simp -implicitDefEqProofs only[vQ,jW,jI,jL,jV,BD,↓reduceIte,jA,jM,enP,KR,jO,f5,f6,AOE hbb,g1,g2,wrap_succ (show i<9223372036854775807 by omega)];exact⟨n-1,by omega,i+1,_,by omega,by trivial,by trivial,by omega,d1,d2,d3,d4,g3,d5⟩
  .have hi:i=l.length:=by have:¬i<l.length:=by simpa using hc
                          omega
   subst hi;simp -implicitDefEqProofs only[vQ,↓reduceIte,jA];exact⟨A',f5,hbb,hnb,hbk,hba,hat,hxe⟩
 .clear hbb hnb hba hbk hxe f5
  rintro F H' ⟨A',f5,hbb,hnb,hbk,hba,hat,hxe⟩;simp -implicitDefEqProofs only[vQ,jW,jI,jL,jV,BD,↓reduceIte,f5];exact⟨bb,ba,bk,nb,by trivial,⟨hbb,hnb,⟨A',hba,hat.len,fun _=>hat⟩,⟨_,hbk,by rw[List.length_replicate],fun _=>KI.zero l⟩,v,rfl⟩,by omega,by omega,by omega,by omega,hx.trans hxe⟩
end
theorem AU1 {l:Dg}(v:VD l)(p:Pr)(e:Ex):stE (l.map Nd.raw) p e=wrg p e:=by
 rw[YQ v];unfold sE wrg;by_cases h1:NG p=0
 .by_cases h2:exE e=0
  .rw[if_pos h1,if_pos h2,if_pos ⟨h1,h2⟩]
  .rw[if_pos h1,if_neg h2,if_neg (fun q=>h2 q.2)]
 .rw[if_neg h1,if_neg (fun q=>h1 q.1)]
theorem RPk.of {p:Pr}(h:NG p=0):RPk p (MB p) .any (r0 p):=⟨by unfold r0 lvV; rw[if_pos h],(PV.of h).pok,by rw[Y2]⟩
section
variable (G:Nat->AV)
set_option maxHeartbeats 8000000 in
theorem AQC (R:List Rn)(m:SM)(hR:R.length<=1048576)(p:Pr)(hs:PrS p)(e:Ex)(hw:wt e<=1048576)(h:Hp):QCall (En G) 16 [.agg [.sl m 3 (R.map ET)],.agg (EF p),.agg (EE e)] h (YB R p e):=by
 refine ACalls.pureQ 4 (R:=fun v H=>ext h H∧((YB R p e v∧∃k,v=.tup [zD,.int .i64 0,.int .i64 k])∨(stE R p e=0∧∃l,R=l.map Nd.raw∧VD l∧∃t l' nb,YM p (MB p) e l=some (t,l')∧h.length<=nb∧H[nb]?=some (.live 3 (l'.map D8))∧v=.tup [.agg [.own nb 0 l'.length],iA t,.int .i64 0]))) ?_ ?H
 case H =>
  rintro v H ⟨hx,⟨hq,k,rfl⟩|⟨h0,l,hl,vl,t,l',nb,hw,ho,hb,rfl⟩⟩
  .exact⟨hx,hq⟩
  .refine⟨hx,.inr ⟨h0,l,hl,vl,.inr ⟨t,l',.any,hw,?_⟩⟩⟩
   have:=WE (d:=0) (n:=h.length) AX2 ho hb;show AV.tup [.agg [JQ h.length H 2 (.own nb 0 l'.length)],_,_]=_;rw[this]; rfl
 refine acN Tryz.func16 rfl ?_;show awp _ _ _ _ _ (EK _ [.cell 6 35,.tmp 7,.tmp 8] _);simp -implicitDefEqProofs only[vQ,BD,↓reduceIte,jA,enP,U2,U1,bxE,TP];generalize hX:h++[ABlk.live 1 [[.sl m 3 (R.map ET)]]]++[ABlk.live 5 [EF p]]++[ABlk.live 4 [EE e]]++[ABlk.live 1 [[.sl .nil 0 []]]]=X;have hx:ext h X:=by rw[<-hX]; exact((((ext.rfl' h).app _).app _).app _).app _
 have q3:X[h.length]?=some (.live 1 [[.sl m 3 (R.map ET)]]):=by rw[<-hX]; exact BR (BR (BR (CU _ _)))
 have q4:X[h.length+1]?=some (.live 5 [EF p]):=by rw[<-hX]; exact BR (BR (IA (by simp)))
 have q5:X[h.length+2]?=some (.live 4 [EE e]):=by rw[<-hX]; exact BR (IA (by simp))
 have q6:X[h.length+3]?=some (.live 1 [[.sl .nil 0 []]]):=by rw[<-hX]; exact IA (by simp)
 have e1:(h++[ABlk.live 1 [[AV.sl m 3 (R.map ET)]]]).length=h.length+1:=by simp
 have e2:(h++[ABlk.live 1 [[AV.sl m 3 (R.map ET)]]]++[ABlk.live 5 [EF p]]).length=h.length+2:=by simp
 have e3:(h++[ABlk.live 1 [[AV.sl m 3 (R.map ET)]]]++[ABlk.live 5 [EF p]]++[ABlk.live 4 [EE e]]).length=h.length+3:=by simp
 have e4:X.length=h.length+4:=by rw[<-hX]; simp
 rw[e1,e2,e3];clear hX;have ldp:DF Tryz.prog X 27 (.ptr (h.length+1) 0 0)=some (.agg (EF p)):=by rw[G7 U4 TU q4 (row:=EF p) rfl (by rw[JG]; exact jQ 5)]; rfl
 simp -implicitDefEqProofs only[vQ,BD,↓reduceIte,JV q3];refine(AH7 G R m hR X).use ?_;have bad:∀k:Int,stE R p e=k->k≠0->YB R p e (.tup [zD,.int .i64 0,.int .i64 k]):=fun k hk hn=>.inl ⟨by rw[hk]; exact hn,by rw[hk]⟩
 cases hv:vdR R with
 | false =>
   simp -implicitDefEqProofs only[vQ,BD,↓reduceIte,jA,enP,jO,ZY,NK q6];rw[J4 _ _ _ _ _ _ _ _ _ _ _ (show _=AV.ptr (h.length+3) 0 0 by simp -implicitDefEqProofs only[AA,↓reduceIte,jA]),JV (D7 q6)];simp -implicitDefEqProofs only[AA,↓reduceIte,jA];exact⟨_,rfl,hx.set (by omega) _,.inl ⟨bad 1 (by unfold stE; rw[if_neg (by rw[hv]; decide)]) (by decide),_,rfl⟩⟩
 | true =>
 obtain⟨l,vl,rfl⟩:=AXK hv;have hst:=AU1 vl p e;rw[V7] at q3;simp -implicitDefEqProofs only[vQ,BD,↓reduceIte,jA,jZ,enP,ldp,JO q5];refine(AUQ G p hs e hw X).use ?_;by_cases hne:wrg p e=0
 case neg =>
  have hc:(wrg p e != 0)=true:=by simpa using hne
  simp -implicitDefEqProofs only[vQ,BD,↓reduceIte,jA,enP,jO,hc,ZY,NK q6];rw[J4 _ _ _ _ _ _ _ _ _ _ _ (show _=AV.ptr (h.length+3) 0 0 by simp -implicitDefEqProofs only[AA,↓reduceIte,jA]),JV (D7 q6)];simp -implicitDefEqProofs only[AA,↓reduceIte,jA];exact⟨_,rfl,hx.set (by omega) _,.inl ⟨bad _ hst hne,_,rfl⟩⟩
 rw[hne] at hst;obtain⟨hv0,hx0,hok⟩:=AKS hst;simp -implicitDefEqProofs only[vQ,BD,↓reduceIte,jA,enP,hne,show((0:Int) != 0)=false from rfl,JV q3,ldp];refine ACalls.mono (AP6 G p hs l vl m X) ?_;rintro _ H1 ⟨bb,ba,bk,nb,rfl,s,b1,b2,b3,b4,hx1⟩;have q5:=GV hx1 q5;have q6:=GV hx1 q6;simp -implicitDefEqProofs only[vQ,BD,↓reduceIte,jA,enP,JO q5];refine(A06 G (RPk.of hv0) hs.vars e hok (AN7 hx0) nb l false H1 s).use (k:=fun w=>trL w 0) (TOT:=rn (YM p (MB p) e) l false) rfl ?_;rintro w l1 e1' nb1 _ H2 he2 x2 ⟨rfl,hw16⟩ ow hS2 s2 k2;have q6:=k2.keep _ _ q6 (by simp; omega) (by omega);simp -implicitDefEqProofs only[vQ,BD,↓reduceIte,jA];refine(AC5 G s2 w hw16 ow).use (k:=fun t=>ret t) (TOT:=rn (YM p (MB p) e) l false) (by rw[U9]; exact hS2) ?_;rintro t l2 e2' nb2 _ H3 he3 x3 rfl ot hS3 s3 k3
 have nn1:h.length+3≠nb1:=by
  have:=hx1.le;have:=CE s.n;rcases k2.nn with q|q<;>omega
 have q6:=k3.keep _ _ q6 (by simp; omega) nn1;have k3:=k2.trans k3
 have nn2:h.length+3≠nb2:=by
  have:=hx1.le;have:=CE s.n;rcases k3.nn with q|q<;>omega
 have hkH:∀(B:ABlk),ext h (H3.set (h.length+3) B):=fun B=>ALV (fun k y q=>by
  have hk:=CE q;rw[jU (by omega)]
  exact k3.keep _ _ (GV hx1 (GV hx q)) (by simp; omega) (by omega)) (by rw[List.length_set]; have:=k3.len; have:=hx1.le; omega)
 cases e2' with
 | true =>
   have hnone:YM p (MB p) e l=none:=hS3.symm;simp -implicitDefEqProofs only[vQ,BD,↓reduceIte,jA,enP,XR,s3.le,show((2:Int) != 0)=true from rfl];refine EW (.ones [0,1,2,3] (.alt 4 (.ones [5,6,7] .done) (.alt 5 (.ones [4,6,7] .done) .non))) (by kernel_rfl) ?_;simp only[DN,IE,jT,jS];have sS:=fun B=>s3.set (c:=h.length+3) (by omega) (by omega) (by omega) nn2 B
   simp -implicitDefEqProofs only[vQ,YH,↓reduceIte,jA,jM,enP,XR,jO,ZY,s3.le,NK q6,(sS _).le,show((2:Int) != 0)=true from rfl,and_true];refine⟨?_,?_⟩
   all_goals
    rw[J4 _ _ _ _ _ _ _ _ _ _ _ (show _=AV.ptr (h.length+3) 0 0 by simp -implicitDefEqProofs only[AA,↓reduceIte,jA]),JV (D7 q6)];simp -implicitDefEqProofs only[AA,↓reduceIte,jA];exact⟨_,rfl,hkH _,.inl ⟨.inr ⟨hst,l,rfl,vl,.inl ⟨hnone,rfl⟩⟩,_,rfl⟩⟩
 | false =>
   have hsome:YM p (MB p) e l=some (t,l2):=hS3.symm;simp -implicitDefEqProofs only[vQ,BD,↓reduceIte,jA,enP,RF,XR,jO,Bool.false_eq_true,s3.le,show((0:Int) != 0)=false from rfl,s3.ll,AYA,AM7 q6];rw[J4 _ _ _ _ _ _ _ _ _ _ _ (show _=AV.ptr (h.length+3) 0 0 by simp -implicitDefEqProofs only[AA,↓reduceIte,jA]),JV (D7 q6)];simp -implicitDefEqProofs only[AA,↓reduceIte,jA];refine⟨_,rfl,hkH _,.inr ⟨hst,l,rfl,vl,t,l2,nb2,hsome,?_,?_,rfl⟩⟩
   .rcases k3.nn with q|q
    .have:=hx.le; omega
    .have:=hx.le; have:=hx1.le; omega
   .rw[jU nn2]
    exact s3.n
end
theorem ACW {R:List Rn}{p:Pr}{e:Ex}{v u:AV}(hv:YB R p e v)(hu:YB R p e u) :
  ∃m1 k1 r1 m2 k2 r2 D t k,v=.tup [.agg [.sl m1 k1 r1],.int .i64 t,.int .i64 k]∧u=.tup [.agg [.sl m2 k2 r2],.int .i64 t,.int .i64 k]∧isD (.agg [.sl m1 k1 r1]) D∧isD (.agg [.sl m2 k2 r2]) D∧D.length<=1048576:=by
 rcases hv with⟨n1,rfl⟩|⟨z1,l,rfl,vl,h1⟩
 .rcases hu with⟨_,rfl⟩|⟨z2,_⟩
  .exact⟨_,_,_,_,_,_,[],_,_,rfl,rfl,isD.nil,isD.nil,by simp⟩
  .exact absurd z2 n1
 .rcases hu with⟨n2,_⟩|⟨_,l2,hl2,_,h2⟩
  .exact absurd z1 n2
  obtain rfl:=TD hl2;rcases h1 with⟨q1,rfl⟩|⟨w,l',m,q1,rfl⟩
  .rcases h2 with⟨_,rfl⟩|⟨w2,l2',m2,q2,rfl⟩
   .exact⟨_,_,_,_,_,_,[],_,_,rfl,rfl,isD.nil,isD.nil,by simp⟩
   .rw[q1] at q2; cases q2
  .rcases h2 with⟨q2,_⟩|⟨w2,l2',m2,q2,rfl⟩
   .rw[q1] at q2; cases q2
   .rw[q1] at q2
    cases q2;obtain⟨hv0,hx0,hok⟩:=AKS z1;obtain⟨v',_⟩:=AGN (lvs:=MB p) (A5Z hv0) hok vl w l' q1;exact⟨_,_,_,_,_,_,l'.map Nd.raw,_,_,rfl,rfl,isD.dg m l',isD.dg m2 l',by rw[jR]; have:=v'.mx; omega⟩
section
variable (G:Nat->AV)
set_option maxHeartbeats 4000000 in
theorem AZG (hG:GOk G)(R:List Rn)(m:SM)(hR:R.length<=1048576)(p:Pr)(hs:PrS p)(e:Ex)(hw:wt e<=1048576)(h:Hp):PCall (En G) 4 [.agg [.sl m 3 (R.map ET)],.agg (EF p),.agg (EE e)] h (.bool true):=by
 refine ACalls.pure0 rfl ?_;refine acN Tryz.func4 rfl ?_;show awp _ _ _ _ _ (EK _ [.tmp 6] _);simp -implicitDefEqProofs only[vQ,BD,↓reduceIte,jA,enP,U2,U1,bxE];generalize hX:h++[ABlk.live 1 [[.sl m 3 (R.map ET)]]]++[ABlk.live 5 [EF p]]++[ABlk.live 4 [EE e]]=X;have hx:ext h X:=by rw[<-hX]; exact(((ext.rfl' h).app _).app _).app _
 have q3:X[h.length]?=some (.live 1 [[.sl m 3 (R.map ET)]]):=by rw[<-hX]; exact BR (BR (CU _ _))
 have q4:X[h.length+1]?=some (.live 5 [EF p]):=by rw[<-hX]; exact BR (IA (by simp))
 have q5:X[h.length+2]?=some (.live 4 [EE e]):=by rw[<-hX]; exact IA (by simp)
 have e1:(h++[ABlk.live 1 [[AV.sl m 3 (R.map ET)]]]).length=h.length+1:=by simp
 have e2:(h++[ABlk.live 1 [[AV.sl m 3 (R.map ET)]]]++[ABlk.live 5 [EF p]]).length=h.length+2:=by simp
 rw[e1,e2];clear hX;simp -implicitDefEqProofs only[vQ,BD,↓reduceIte,jA,enP,JV q3,AZE q4,JO q5];refine(AO1 G p hs e hw (isD.of m R) X).use ?_;rintro v ⟨b,rfl⟩;cases b
 .simp -implicitDefEqProofs only[vQ,BD,↓reduceIte]
  refine(AF6 G hG X).use ?_;simp -implicitDefEqProofs only[vQ,BD,↓reduceIte];exact⟨by trivial,hx⟩
 simp -implicitDefEqProofs only[vQ,BD,↓reduceIte,jA,jZ,enP,JV q3,AZE q4,JO q5];refine(YA G hG R m hR p hs e hw X).use ?_;intro v hv;have pure2:=fun X'=>AQC G R m hR p hs e hw X'
 obtain⟨m1,k1,r1,_,_,_,D1,t,k,hv1,_⟩:=ACW hv hv;rw[hv1] at hv|-;have q3:=BR (x:=ABlk.live 1 [[.sl m1 k1 r1]]) q3;have q4:=BR (x:=ABlk.live 1 [[.sl m1 k1 r1]]) q4;have q5:=BR (x:=ABlk.live 1 [[.sl m1 k1 r1]]) q5;have q7:=CU X (ABlk.live 1 [[.sl m1 k1 r1]]);have hx:=hx.app [ABlk.live 1 [[.sl m1 k1 r1]]];simp -implicitDefEqProofs only[vQ,jS,jT,BD,↓reduceIte,jA,enP,jO,TP,stT,JV q3,AZE q4,JO q5];generalize X++[ABlk.live 1 [[.sl m1 k1 r1]]]=Y at q3 q4 q5 q7 hx|-;refine(pure2 Y).use ?_;intro u hu;obtain⟨m1',k1',r1',m2,k2,r2,D,t',k',hv2,rfl,d1,d2,hD⟩:=ACW hv hu
 injection hv2 with hv2
 injection hv2 with c1 hv2
 injection hv2 with c2 hv2
 injection hv2 with c3 _
 rw[<-c1] at d1;have c2:t=t':=by injection c2
 have c3:k=k':=by injection c3
 subst c2;subst c3;have q8:=CU Y (ABlk.live 1 [[.sl m2 k2 r2]]);have q7:=BR (x:=ABlk.live 1 [[.sl m2 k2 r2]]) q7;simp -implicitDefEqProofs only[vQ,jS,jT,BD,↓reduceIte,jA,enP,jO,TP,stT,JV q7,JV q8];refine(AQ8 G d1 d2 hD hD _).use ?_;rw[decide_eq_true rfl];simp -implicitDefEqProofs only[vQ,CV,BD,↓reduceIte,jA,enP,show(t==t)=true by simp,show(k==k)=true by simp];refine(AF6 G hG _).use ?_;simp -implicitDefEqProofs only[vQ,BD,↓reduceIte,jA];exact⟨by trivial,hx.app _⟩
end
end Go.Proofs.YtgnoolgeijmlaaaGreatDoor.Bl
