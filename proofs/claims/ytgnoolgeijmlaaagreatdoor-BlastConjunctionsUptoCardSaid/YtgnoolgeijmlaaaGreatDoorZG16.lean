/- Part 16 of the proof (In, Io, Iq, Ir, Ke); no condition. -/
import Derived.Test.YtgnoolgeijmlaaaGreatDoorZG15
set_option linter.unusedVariables false
set_option linter.unusedSimpArgs false
set_option maxRecDepth 8000
namespace Go.Proofs.YtgnoolgeijmlaaaGreatDoor.Bl
open Sm Bins Cov Xe Wd Go.Proofs.YtgnoolgeijmlaaaGreatDoor.Bd Go.RowKit
open Bool renaming or_false→jV,not_false→jC,or_true→qP
open List renaming replicate→jJ,length→wH,length_map→jR,contains_cons→jW,contains_nil→jI,getElem?_cons_succ→jT,getElem?_cons_zero→jS,map_cons→jF,map_nil→jE,append_nil→jD,length_append→zT,getElem?_set_ne→jU,getElem_mem→zC,length_set→zZ
open Nat renaming le_of_ble_eq_true→jH,zero_add→jG,reduceBEq→jK,reduceEqDiff→jA,le_refl→jQ,reduceAdd→jO,add_zero→jL
open Option renaming getD_some→jB,getD_none→jM,map_some→qU,map_none→wB
theorem A4S (h:Hp)(n:Nat)(hn:n≤1048576):IV Tryz.prog true h 84 (.int .i64 (n:Int)) (.int .i64 (n:Int))=some (.own h.length 0 n,h++[.live 5 ((jJ n (⟨0,0,0,0,0⟩:Kn)).map KD)]):=by
 have hz:NW Tryz.prog 179=some (KD ⟨0,0,0,0,0⟩):=by kernel_rfl
 have hr:room n 40:=OT (by omega) (by omega);unfold IV;simp only[A3Z,AIC,A45,hz,Int.toNat_natCast];rw[if_pos ⟨by omega,Int.le_refl _,hr,by kernel_rfl⟩];simp
def r0 (p:Pr):List AV:=EE p++[lvV p]
theorem A5E (nb ba bk n a k:Nat)(p:Pr):KC Tryz.prog 86 [(0,.own nb 0 n),(1,.own ba 0 a),(2,.own bk 0 k),(3,.agg (EE p)),(4,lvV p)]=some (.agg (.own nb 0 n :: .own ba 0 a :: .own bk 0 k :: (r0 p++[.int .i64 0]))):=by
 obtain⟨lm,k',xs,e⟩ : ∃ lm k' xs,lvV p = .sl lm k' xs:=by unfold lvV; split <;> exact⟨_,_,_,rfl⟩
 unfold r0;rw[e]
 kernel_rfl
theorem AR5 (p:Pr):AV.leaf (lvV p)=true:=by unfold lvV; split <;> rfl
theorem A5A (h:Hp)(nb ba bk n a k:Nat)(p:Pr):MC h (.agg (.own nb 0 n :: .own ba 0 a :: .own bk 0 k :: (r0 p++[.int .i64 0])))=some (.ptr h.length 0 0,h++[.live 10 [.own nb 0 n :: .own ba 0 a :: .own bk 0 k :: (r0 p++[.int .i64 0])]]):=by
 have:=WE (h:=h) (cs := .own nb 0 n :: .own ba 0 a :: .own bk 0 k :: (r0 p++[.int .i64 0])) (by
  simp only[List.all_cons,List.all_append,r0,AL1,AR5,List.all_nil]; rfl)
 exact this
def Lf (A:Hp)(zN zA zK:ABlk)(p:Pr)(n:Nat)(v:AV)(H:Hp):Prop := ∃ bb ba bk nb,v = .ptr bb 0 0∧H[bb]? = some (.live 10 [.own nb 0 n :: .own ba 0 32768 :: .own bk 0 32768 :: (r0 p++[.int .i64 0])])∧H[nb]? = some zN∧H[ba]? = some zA∧H[bk]? = some zK∧Sm.ext A H∧A.length≤bb∧A.length≤ba∧A.length≤bk∧A.length≤nb
theorem Lf.mk {A:Hp}{zN zA zK:ABlk}{p:Pr}{n:Nat}{v:AV}{H:Hp}(h : ∃ bb ba bk nb,v = .ptr bb 0 0∧H[bb]? = some (.live 10 [.own nb 0 n :: .own ba 0 32768 :: .own bk 0 32768 :: (r0 p++[.int .i64 0])])∧H[nb]? = some zN∧H[ba]? = some zA∧H[bk]? = some zK∧Sm.ext A H∧A.length≤bb∧A.length≤ba∧A.length≤bk∧A.length≤nb):Lf A zN zA zK p n v H:=h
section
variable (G:Nat→AV)
set_option maxHeartbeats 8000000 in
theorem AP7 (p:Pr)(hs:PrS p)(l:Dg)(v:VD l)(m:SM)(h:Hp):ACalls (En G) 43 [dgA m l,.agg (EE p)] h fun u H => ∃ bb ba bk nb,u = .ptr bb 0 0∧RS bb ba bk (r0 p) nb l false H∧h.length≤bb∧h.length≤ba∧h.length≤bk∧h.length≤nb∧Sm.ext h H:=by
 refine I5 (H:=hint [10,11,12,15] []) (enM G) Tryz.func43 rfl (by kernel_rfl) (by kernel_rfl) (jH (by kernel_rfl)) ?_;show awp _ _ _ _ _ (EK _ [.tmp 4] _);have mx:=v.mx;have two:=v.two;obtain⟨zN,hN⟩ : ∃ z:ABlk,z = .live 3 (l.map D6):=⟨_,rfl⟩
 obtain⟨zA,hA⟩ : ∃ z:ABlk,z = .live 1 ((jJ 32768 (0:Int)).map qencI):=⟨_,rfl⟩
 obtain⟨zK,hK⟩ : ∃ z:ABlk,z = .live 5 ((jJ 32768 (⟨0,0,0,0,0⟩:Kn)).map KD):=⟨_,rfl⟩
 have mkA : ∀ h:Hp,IV Tryz.prog true h 29 (.int .i64 32768) (.int .i64 32768)=some (.own h.length 0 32768,h++[zA]):=fun h=>by rw[hA]; exact ANO h 32768 (by decide)
 have mkK : ∀ h:Hp,IV Tryz.prog true h 84 (.int .i64 32768) (.int .i64 32768)=some (.own h.length 0 32768,h++[zK]):=fun h=>by rw[hK]; exact A4S h 32768 (by decide)
 have mkN : ∀ h:Hp,IL Tryz.prog true h 33 33 (.sl .full 3 []) (.sl m 3 (l.map D6))=some (.own h.length 0 l.length,h++[zN]):=fun h=>by
  have:=AJ8 (P:=Tryz.prog) (t:=33) (h:=h) (xs := []) (x := .sl m 3 (l.map D6)) AQZ TP AUL AWU (KG _ _ _ _) (by intro q; have:=congrArg wH q; simp at this; rw[this] at two; simp at two) ⟨by simp; omega,by simp; omega⟩;rw[jR,List.length_nil,jG,List.nil_append] at this;rw[hN]; exact this
 unfold dgA;have q0:(h++[ABlk.live 1 [[.sl m 3 (l.map D6)]]]++[ABlk.live 5 [EE p]])[h.length]? = some (.live 1 [[.sl m 3 (l.map D6)]]):=BR (CU _ _);have q1:(h++[ABlk.live 1 [[.sl m 3 (l.map D6)]]]++[ABlk.live 5 [EE p]])[(h++[ABlk.live 1 [[.sl m 3 (l.map D6)]]]).length]? = some (.live 5 [EE p]):=CU _ _;have hx:Sm.ext h (h++[ABlk.live 1 [[.sl m 3 (l.map D6)]]]++[ABlk.live 5 [EE p]]):=((ext.rfl' h).app _).app _;have bx35:MC h (.agg [.sl m 3 (l.map D6)])=some (.ptr h.length 0 0,h++[.live 1 [[.sl m 3 (l.map D6)]]]):=WE rfl;simp -implicitDefEqProofs only[vQ,jW,jI,jK,jV,BD,SC,↓reduceIte,jA,enP,bx35,UW];generalize h++[ABlk.live 1 [[.sl m 3 (l.map D6)]]]++[ABlk.live 5 [EE p]]=A at q0 q1 hx ⊢;generalize (h++[ABlk.live 1 [[.sl m 3 (l.map D6)]]]).length=pb at q1 ⊢;generalize hdb:h.length=db at q0 ⊢;have l0 : ∀ {H:Hp},H[db]? = some (.live 1 [[.sl m 3 (l.map D6)]])→DF Tryz.prog H 33 (.ptr db 0 0)=some (.sl m 3 (l.map D6)):=fun q=>by rw[DJ AE1 q rfl]; rfl
 have l1 : ∀ {H:Hp},H[pb]? = some (.live 5 [EE p])→DF Tryz.prog H 27 (.ptr pb 0 0)=some (.agg (EE p)):=fun q=>by rw[G7 VP UR q (row:=EE p) rfl (by rw[JM]; exact jQ 5)]; rfl
 have lv:=ALH G p hs;refine ZW (fun F H=>Lf A zN zA zK p l.length (F 5) H) (fun _ _=>False) ?_ ?_ (fun _ _ q=>q.elim)
 ·refine ES (.ones [0,1,2] (.alt 3 (.ones [7,8,6] (.alt 4 (.ones [5,9,10,11] .done) (.alt 5 (.ones [4,9,10,11] .done) (.non)))) (.alt 4 (.alt 3 (.ones [7,8,6,5,9,10,11] .done) (.alt 5 (.alt 3 (.ones [7,8,6,9,10,11] .done) (.alt 6 (.alt 3 (.ones [7,8,9,10,11] .done) (.alt 7 (.ones [3,8,9,10,11] .done) (.non))) (.alt 7 (.alt 3 (.ones [8,6,9,10,11] .done) (.alt 6 (.ones [3,8,9,10,11] .done) (.non))) (.non)))) (.alt 6 (.alt 3 (.ones [7,8,5,9,10,11] .done) (.alt 5 (.alt 3 (.ones [7,8,9,10,11] .done) (.alt 7 (.ones [3,8,9,10,11] .done) (.non))) (.alt 7 (.alt 3 (.ones [8,5,9,10,11] .done) (.alt 5 (.ones [3,8,9,10,11] .done) (.non))) (.non)))) (.alt 7 (.alt 3 (.ones [8,6,5,9,10,11] .done) (.alt 5 (.alt 3 (.ones [8,6,9,10,11] .done) (.alt 6 (.ones [3,8,9,10,11] .done) (.non))) (.alt 6 (.alt 3 (.ones [8,5,9,10,11] .done) (.alt 5 (.ones [3,8,9,10,11] .done) (.non))) (.non)))) (.non))))) (.alt 5 (.alt 3 (.ones [7,8,6,4,9,10,11] .done) (.alt 4 (.alt 3 (.ones [7,8,6,9,10,11] .done) (.alt 6 (.alt 3 (.ones [7,8,9,10,11] .done) (.alt 7 (.ones [3,8,9,10,11] .done) (.non))) (.alt 7 (.alt 3 (.ones [8,6,9,10,11] .done) (.alt 6 (.ones [3,8,9,10,11] .done) (.non))) (.non)))) (.alt 6 (.alt 3 (.ones [7,8,4,9,10,11] .done) (.alt 4 (.alt 3 (.ones [7,8,9,10,11] .done) (.alt 7 (.ones [3,8,9,10,11] .done) (.non))) (.alt 7 (.alt 3 (.ones [8,4,9,10,11] .done) (.alt 4 (.ones [3,8,9,10,11] .done) (.non))) (.non)))) (.alt 7 (.alt 3 (.ones [8,6,4,9,10,11] .done) (.alt 4 (.alt 3 (.ones [8,6,9,10,11] .done) (.alt 6 (.ones [3,8,9,10,11] .done) (.non))) (.alt 6 (.alt 3 (.ones [8,4,9,10,11] .done) (.alt 4 (.ones [3,8,9,10,11] .done) (.non))) (.non)))) (.non))))) (.alt 6 (.alt 3 (.ones [7,8] (.alt 4 (.ones [5,9,10,11] .done) (.alt 5 (.ones [4,9,10,11] .done) (.non)))) (.alt 4 (.alt 3 (.ones [7,8,5,9,10,11] .done) (.alt 5 (.alt 3 (.ones [7,8,9,10,11] .done) (.alt 7 (.ones [3,8,9,10,11] .done) (.non))) (.alt 7 (.alt 3 (.ones [8,5,9,10,11] .done) (.alt 5 (.ones [3,8,9,10,11] .done) (.non))) (.non)))) (.alt 5 (.alt 3 (.ones [7,8,4,9,10,11] .done) (.alt 4 (.alt 3 (.ones [7,8,9,10,11] .done) (.alt 7 (.ones [3,8,9,10,11] .done) (.non))) (.alt 7 (.alt 3 (.ones [8,4,9,10,11] .done) (.alt 4 (.ones [3,8,9,10,11] .done) (.non))) (.non)))) (.alt 7 (.alt 3 (.ones [8] (.alt 4 (.ones [5,9,10,11] .done) (.alt 5 (.ones [4,9,10,11] .done) (.non)))) (.alt 4 (.alt 3 (.ones [8,5,9,10,11] .done) (.alt 5 (.ones [3,8,9,10,11] .done) (.non))) (.alt 5 (.alt 3 (.ones [8,4,9,10,11] .done) (.alt 4 (.ones [3,8,9,10,11] .done) (.non))) (.non)))) (.non))))) (.alt 7 (.alt 3 (.ones [8,6] (.alt 4 (.ones [5,9,10,11] .done) (.alt 5 (.ones [4,9,10,11] .done) (.non)))) (.alt 4 (.alt 3 (.ones [8,6,5,9,10,11] .done) (.alt 5 (.alt 3 (.ones [8,6,9,10,11] .done) (.alt 6 (.ones [3,8,9,10,11] .done) (.non))) (.alt 6 (.alt 3 (.ones [8,5,9,10,11] .done) (.alt 5 (.ones [3,8,9,10,11] .done) (.non))) (.non)))) (.alt 5 (.alt 3 (.ones [8,6,4,9,10,11] .done) (.alt 4 (.alt 3 (.ones [8,6,9,10,11] .done) (.alt 6 (.ones [3,8,9,10,11] .done) (.non))) (.alt 6 (.alt 3 (.ones [8,4,9,10,11] .done) (.alt 4 (.ones [3,8,9,10,11] .done) (.non))) (.non)))) (.alt 6 (.alt 3 (.ones [8] (.alt 4 (.ones [5,9,10,11] .done) (.alt 5 (.ones [4,9,10,11] .done) (.non)))) (.alt 4 (.alt 3 (.ones [8,5,9,10,11] .done) (.alt 5 (.ones [3,8,9,10,11] .done) (.non))) (.alt 5 (.alt 3 (.ones [8,4,9,10,11] .done) (.alt 4 (.ones [3,8,9,10,11] .done) (.non))) (.non)))) (.non))))) (.non))))))) (by kernel_rfl) ?_
  simp only[DN,IA,jT,jS];simp -implicitDefEqProofs only[vQ,jW,jI,jK,jV,qP,KW,ABB,JW,AFZ,OU,JP,LZ,↓reduceIte,jA,jO,enP,OA,ATU,l0 q0];have a1 : ∀ x:ABlk,DF Tryz.prog (A++[x]) 27 (.ptr pb 0 0)=some (.agg (EE p)):=fun x=>l1 (BR q1)
  have a2 : ∀ x y:ABlk,DF Tryz.prog (A++[x]++[y]) 27 (.ptr pb 0 0)=some (.agg (EE p)):=fun x y=>l1 (BR (BR q1))
  have a3 : ∀ x y z:ABlk,DF Tryz.prog (A++[x]++[y]++[z]) 27 (.ptr pb 0 0)=some (.agg (EE p)):=fun x y z=>l1 (BR (BR (BR q1)))
  have a0:=l1 q1;have hcb : ∀ (nb ba bk n a k:Nat),(.own nb 0 n :: .own ba 0 a :: .own bk 0 k :: (r0 p++[.int .i64 0]):List AV) = .own nb 0 n :: .own ba 0 a :: .own bk 0 k :: (r0 p++[.int .i64 0]):=fun _ _ _ _ _ _=>rfl
  repeat' first
   | with_reducible exact trivial
   | ((with_reducible refine Lf.mk ?_); exact⟨_,_,_,_,rfl,CU _ _,by first | exact BR (CU _ _) | exact BR (BR (CU _ _)) | exact BR (BR (BR (CU _ _))),by first | exact BR (CU _ _) | exact BR (BR (CU _ _)) | exact BR (BR (BR (CU _ _))),by first | exact BR (CU _ _) | exact BR (BR (CU _ _)) | exact BR (BR (BR (CU _ _))),
       ((((ext.rfl' A).app _).app _).app _).app _,by simp only[zT,List.length_singleton]; omega,by first | exact jQ _ | (simp only[zT,List.length_singleton]; omega),by first | exact jQ _ | (simp only[zT,List.length_singleton]; omega),by first | exact jQ _ | (simp only[zT,List.length_singleton]; omega)⟩)
   | with_reducible exact fun x=>lv _
   | with_reducible refine And.intro ?_ ?_
   | with_reducible refine Exists.intro (lvV p) (And.intro ?_ ?_)
   | (simp -implicitDefEqProofs only[vQ,jW,jI,jK,jV,qP,AQK,YB,ABB,AFZ,JP,↓reduceIte,jA,jO,enP,mkN,mkA,mkK,a0,a1,a2,a3,A5E,A5A,ATU,l0 q0])
 rintro F H ⟨bb,ba,bk,nb,f5,hbb,hnb,hba,hbk,hxe,b1,b2,b3,b4⟩;have hlt:=hx.le;have e5:(cB ba bk nb l.length (r0 p) false) = .own nb 0 l.length :: .own ba 0 32768 :: .own bk 0 32768 :: (r0 p++[.int .i64 0]):=rfl;rw[← e5] at hbb;rw[hN] at hnb;rw[hA,← AH6] at hba;rw[hK] at hbk;have n1:ba≠bb:=fun q=>by rw[q,hbb] at hba; cases hba
 have n2:ba≠bk:=fun q=>by rw[q,hbk] at hba; cases hba
 have n3:ba≠nb:=fun q=>by rw[q,hnb] at hba; cases hba
 simp -implicitDefEqProofs only[vQ,jW,jI,jK,jV,BD,f5];refine F8 0 (fun F H' => ∃ A',F 5 = .ptr bb 0 0∧H'[bb]? = some (.live 10 [cB ba bk nb l.length (r0 p) false])∧H'[nb]? = some (.live 3 (l.map D6))∧H'[bk]? = some (.live 5 ((jJ 32768 (⟨0,0,0,0,0⟩:Kn)).map KD))∧isI H' ba (wI A')∧AtI l l.length A'∧Sm.ext A H') (fun _ _=>False) ?_ ?_ (fun _ _ q=>q.elim)
 ·refine DX (fun n F H' => ∃ i A',n+i=l.length∧F 5 = .ptr bb 0 0∧F 6 = .int .i64 (i:Nat)∧2≤i∧H'[bb]? = some (.live 10 [cB ba bk nb l.length (r0 p) false])∧H'[nb]? = some (.live 3 (l.map D6))∧H'[bk]? = some (.live 5 ((jJ 32768 (⟨0,0,0,0,0⟩:Kn)).map KD))∧isI H' ba (wI A')∧AtI l i A'∧Sm.ext A H') (l.length - 2)
   ⟨2,_,by omega,by simp -implicitDefEqProofs only[AA,↓reduceIte,jA]; exact f5,by simp -implicitDefEqProofs only[AA,↓reduceIte]; rfl,jQ 2,hbb,hnb,hbk,hba,AtI.zero l,hxe⟩ ?_
  clear hbb hnb hba hbk hxe f5;rintro n F H' ⟨i,A',hn,f5,f6,h2,hbb,hnb,hbk,hba,hat,hxe⟩;have ec:decide (((i:Nat):Int) < ((l.length:Nat):Int))=decide (i < l.length):=by rw[decide_eq_decide]; omega
  simp -implicitDefEqProofs only[vQ,jW,jI,jK,jV,BD,↓reduceIte,jA,enP,U7,Q4,f5,f6,AJY hbb,ec];refine CZ (fun hc => ?_) (fun hc => ?_)
  ·have hi:i < l.length:=by simpa using hc
   have nd:=AR2 hnb hi;have lvi:=v.lv_le hi;have ndk:=v.at h2 hi;have hplace:=AFE G hbb hnb hba hat (Nat.le_of_lt hi) mx (nth l i) lvi (by omega) (by omega);simp -implicitDefEqProofs only[vQ];refine ES (.ones [0,1,2,4,5,6,7,8,9,10,11,13] (.alt 3 (.alt 12 (.ones [14,15] .done) .non) (.alt 12 (.ones [3,14,15] .done) .non))) (by kernel_rfl) ?_;simp only[DN,IA,jT,jS]
   have fin : ∀ s,(∀ t,t < s→¬ stp l A' (nth l i) ((hsh (nth l i)+t) % 32768))→stp l A' (nth l i) ((hsh (nth l i)+s) % 32768)→KF 1 H' (.own ba 0 32768) (iA ((hsh (nth l i)+s) % 32768))=some (.ptr ba ((hsh (nth l i)+s) % 32768) 0) ∧
     FD Tryz.prog H' 3 (.ptr ba ((hsh (nth l i)+s) % 32768) 0) (.int .i64 (i:Nat))=some (H'.set ba (.live 1 ((wI (A'.set ((hsh (nth l i)+s) % 32768) i)).map qencI)))∧AtI l (i+1) (A'.set ((hsh (nth l i)+s) % 32768) i):=by
    intro s hs hst;have hjl:(hsh (nth l i)+s) % 32768 < 32768:=Nat.mod_lt _ (by decide)
    have h0:A'.getD ((hsh (nth l i)+s) % 32768) 0=0:=by
     rcases hst with q | q
     ·exact q
     ·rcases Nat.eq_zero_or_pos (A'.getD ((hsh (nth l i)+s) % 32768) 0) with z | z
      ·exact z
      ·have hr:=hat.rg _ (by omega:A'.getD ((hsh (nth l i)+s) % 32768) 0≠0)
       have e1:=v.fnd (i:=i) (by rw[QF hi]);have e2:=v.fnd (i:=A'.getD ((hsh (nth l i)+s) % 32768) 0) (n:=nth l i) (by rw[QF (by omega),q]);rw[e1] at e2;have:i=A'.getD ((hsh (nth l i)+s) % 32768) 0:=by injection e2
       omega
    have hst':=hba.st (i:=(hsh (nth l i)+s) % 32768) (by rw[NH,hat.len]; exact hjl) ((i:Nat):Int);rw[AKP] at hst';exact⟨hba.ix (n:=32768) (kk := .i64) hjl,hst',hat.put (by omega) hs h0 rfl⟩
   have done : ∀ A2:List Nat,(H'.set ba (.live 1 ((wI A2).map qencI)))[bb]? = some (.live 10 [cB ba bk nb l.length (r0 p) false])∧(H'.set ba (.live 1 ((wI A2).map qencI)))[nb]? = some (.live 3 (l.map D6))∧(H'.set ba (.live 1 ((wI A2).map qencI)))[bk]? = some (.live 5 ((jJ 32768 (⟨0,0,0,0,0⟩:Kn)).map KD))∧isI (H'.set ba (.live 1 ((wI A2).map qencI))) ba (wI A2)∧Sm.ext A (H'.set ba (.live 1 ((wI A2).map qencI))) :=
    fun A2=>⟨by rw[jU n1]; exact hbb,by rw[jU n3]; exact hnb,by rw[jU n2]; exact hbk,DZ hba,hxe.set b2 _⟩
   simp -implicitDefEqProofs only[vQ,jW,jI,jK,jV,BD,↓reduceIte,jA,jO,enP,KP,WI,Q4,XP,f5,f6,AJY hbb,AOG hbb,nd.1,nd.2.1];refine⟨⟨hplace.use ?_,trivial⟩,hplace.use ?_,trivial⟩
   all_goals
    rintro _ ⟨s,rfl,hs,hst⟩;obtain⟨g1,g2,g3⟩:=fin s hs hst;obtain⟨d1,d2,d3,d4,d5⟩:=done (A'.set ((hsh (nth l i)+s) % 32768) i);simp -implicitDefEqProofs only[vQ,jW,jI,jK,jV,BD,↓reduceIte,jA,jO,enP,KP,jM,f5,f6,AOG hbb,g1,g2,wrap_succ (show i < 9223372036854775807 by omega)];exact⟨n - 1,by omega,i+1,_,by omega,by trivial,by trivial,by omega,d1,d2,d3,d4,g3,d5⟩
  ·have hi:i=l.length:=by have : ¬ i < l.length:=by simpa using hc
                          omega
   subst hi;simp -implicitDefEqProofs only[vQ,↓reduceIte,jA];exact⟨A',f5,hbb,hnb,hbk,hba,hat,hxe⟩
 ·clear hbb hnb hba hbk hxe f5
  rintro F H' ⟨A',f5,hbb,hnb,hbk,hba,hat,hxe⟩;simp -implicitDefEqProofs only[vQ,jW,jI,jK,jV,BD,↓reduceIte,f5];exact⟨bb,ba,bk,nb,by trivial,⟨hbb,hnb,⟨A',hba,hat.len,fun _=>hat⟩,⟨_,hbk,by rw[List.length_replicate],fun _=>KI.zero l⟩,v,rfl⟩,by omega,by omega,by omega,by omega,hx.trans hxe⟩
end
theorem AGK {l:Dg}(v:VD l)(p:Pr)(e:Ex):stE (l.map Nd.raw) p e=wrg p e:=by
 rw[VW v];unfold sE wrg;by_cases h1:ND p=0
 ·by_cases h2:exE e=0
  ·rw[if_pos h1,if_pos h2,if_pos ⟨h1,h2⟩]
  ·rw[if_pos h1,if_neg h2,if_neg (fun q=>h2 q.2)]
 ·rw[if_neg h1,if_neg (fun q=>h1 q.1)]
theorem RPk.of {p:Pr}(h:ND p=0):RPk p (L9 p) .any (r0 p):=⟨by unfold r0 lvV; rw[if_pos h],(PV.of h).pok,by rw[YY]⟩
section
variable (G:Nat→AV)
end
def AHL (p:Pr)(e:Ex)(t:Nat):M Nat:=(ABQ p (L9 p) e).bnd fun w=>(trL w 0).bnd fun f=>JR t f
theorem AF9 {p:Pr}{e:Ex}{es:List Ex}{t:Nat}{l:Dg}(h:wrg p e=0)(hE:sE p e=wrg p e):RP p (e :: es) t l=match AHL p e t l with
  | none => .error 2
  | some (u,l2)=>RP p es u l2:=by
 have hc:AHL p e t l=((YI p (L9 p) e).bnd fun f=>JR t f) l:=by unfold AHL YI; rw[GH]
 rw[hc];show(if sE p e≠0 then Except.error (sE p e) else _)=_;rw[if_neg (by rw[hE,h]; simp)]
 cases hq:YI p (L9 p) e l with
 | none=>rw[P8 hq]
 | some q =>
   obtain⟨f,l1⟩:=q;rw[MX hq];rfl
theorem ACV (p:Pr)(e:Ex):sE p e=wrg p e:=by rw[← VW vd0,AGK vd0]
section
variable (G:Nat→AV)
set_option maxHeartbeats 8000000 in
theorem AXJ (p:Pr)(hs:PrS p)(es:List Ex)(sm:SM)(hl:es.length≤1048576)(hw : ∀ e∈es,wt e≤1048576)(h:Hp):QCall (En G) 19 [.agg (EE p),.sl sm 4 (es.map D8)] h (AQI (RP p es 1 dg0)):=by
 generalize hO:RP p es 1 dg0=O;refine ACalls.pureQ 4 (R:=fun v H=>ext h H∧((∃ k,O = .error k∧v = .tup [zD,.int .i64 0,.int .i64 k])∨∃ t l nb,O = .ok (t,l)∧h.length≤nb∧H[nb]? = some (.live 3 (l.map D6))∧v = .tup [.agg [.own nb 0 l.length],iA t,.int .i64 0])) ?_ ?H
 case H =>
  rintro v H ⟨hx,⟨k,rfl,rfl⟩ | ⟨t,l,nb,rfl,ho,hb,rfl⟩⟩
  ·exact⟨hx,rfl⟩
  ·refine⟨hx,.any,?_⟩
   have:=V6 (d:=0) (n:=h.length) AX2 ho hb;show AV.tup [.agg [JO h.length H 2 (.own nb 0 l.length)],_,_]=_;rw[this]; rfl
 refine acN Tryz.func19 rfl ?_;show awp _ _ _ _ _ (EK _ [.cell 4 35,.tmp 5,.tmp 6] _);simp -implicitDefEqProofs only[vQ,BD,enP,UW,TG];generalize hX:h++[ABlk.live 5 [EE p]]++[ABlk.live 1 [[.sl .nil 0 []]]]=X;have hx:ext h X:=by rw[← hX]; exact((ext.rfl' h).app _).app _
 have q2:X[h.length]? = some (.live 5 [EE p]):=by rw[← hX]; exact BR (CU _ _)
 have q4:X[h.length+1]? = some (.live 1 [[.sl .nil 0 []]]):=by rw[← hX]; exact IG (by simp)
 have e1:(h++[ABlk.live 5 [EE p]]).length=h.length+1:=by simp
 have e4:X.length=h.length+2:=by rw[← hX]; simp
 rw[e1];clear hX;refine ES (.ones [0,1] (.alt 2 (.ones [3] .done) .non)) (by kernel_rfl) ?_;simp only[DN,IA,jT,jS];simp -implicitDefEqProofs only[vQ,BD,↓reduceIte,jA,jO,enP];refine⟨_,show PCall (En G) 47 [] X (dgA .full dg0) from AVS G X,?_⟩;simp -implicitDefEqProofs only[vQ,↓reduceIte,jA,ASA q2];refine⟨ACalls.mono (AP7 G p hs dg0 vd0 .full X) ?_,trivial⟩;rintro _ B ⟨bb,ba,bk,nb0,rfl,s0,b1,b2,b3,b4,hxB⟩;have q2:=GN hxB q2;have q4:=GN hxB q4;have hBl:=hxB.le
 have hkB : ∀ (nb:Nat) (H:Hp),Kd [bb,ba,bk] nb0 nb B H→∀ (k:Nat) (y:ABlk),h[k]? = some y→H[k]? = some y:=fun nb H kd k y q=>by
  have:=CB q;exact kd.keep k y (GN hxB (GN hx q)) (by simp; omega) (by omega)
 simp -implicitDefEqProofs only[vQ,↓reduceIte]
 refine F8 0 (fun F H => ∃ t l nb,O = .ok (t,l)∧RS bb ba bk (r0 p) nb l false H∧Kd [bb,ba,bk] nb0 nb B H∧H[h.length+1]? = some (.live 1 [[.sl .nil 0 []]])∧F 4 = .ptr (h.length+1) 0 0∧F 7 = .ptr bb 0 0∧F 8=iA t)
  (fun F H => ∃ k,O = .error k∧H[h.length+1]? = some (.live 1 [[.sl .nil 0 []]])∧ext h H∧F 4 = .ptr (h.length+1) 0 0∧F 5 = .int .i64 0∧F 6 = .int .i64 k) ?_ ?_ ?_
 ·refine DX (fun n F H => ∃ i t l nb,n+i=es.length∧RP p (es.drop i) t l=O∧t < l.length∧RS bb ba bk (r0 p) nb l false H∧Kd [bb,ba,bk] nb0 nb B H∧H[h.length]? = some (.live 5 [EE p])∧H[h.length+1]? = some (.live 1 [[.sl .nil 0 []]]) ∧
    F 1 = .sl sm 4 (es.map D8)∧F 2 = .ptr h.length 0 0∧F 4 = .ptr (h.length+1) 0 0∧F 7 = .ptr bb 0 0∧F 8=iA t∧F 9 = .int .i64 (i:Nat)) es.length
   ⟨0,1,dg0,nb0,rfl,hO,by decide,s0,Kd.rfl' _ _ _,q2,q4,by simp -implicitDefEqProofs only[vQ,↓reduceIte,jA],by simp -implicitDefEqProofs only[AA,↓reduceIte,jA],by simp -implicitDefEqProofs only[AA,↓reduceIte,jA],by simp -implicitDefEqProofs only[AA,↓reduceIte,jA],by simp -implicitDefEqProofs only[AA,↓reduceIte,jA]; rfl,by simp -implicitDefEqProofs only[AA,↓reduceIte]; rfl⟩ ?_
  clear q2 q4;rintro n F H ⟨i,t,l,nb,hn,hS,ht,s,kd,q2,q4,f1,f2,f4,f7,f8,f9⟩;have ec:decide (((i:Nat):Int) < (((es.map D8).length:Nat):Int))=decide (i < es.length):=by rw[jR,decide_eq_decide]; omega
  simp -implicitDefEqProofs only[vQ,BD,↓reduceIte,jA,enP,UU,f1,f9,ec];refine CZ (fun hc => ?_) (fun hc => ?_)
  ·have hi:i < es.length:=by simpa using hc
   have hwi:=hw _ (zC hi);rw[List.drop_eq_getElem_cons hi] at hS;have mE : ∀ H:Hp,DF Tryz.prog H 37 (.fptr 4 (es.map D8) i 0)=some (.agg (D8 es[i])):=fun H=>GV (P:=Tryz.prog) (k:=4) (h:=H) VO QB IK hi
   generalize es[i]=e at hS hwi mE;simp -implicitDefEqProofs only[vQ];refine GL (by kernel_rfl) ?_;simp -implicitDefEqProofs only[vQ,BD,↓reduceIte,jA,jO,enP,WJ,f1,f2,f9,ASA q2,EW hi,mE];refine⟨_,AUU G p hs e hwi H,?_⟩;simp -implicitDefEqProofs only[vQ,↓reduceIte];by_cases hne:wrg p e=0
   case neg =>
    have hb:(wrg p e != 0)=true:=by simpa using hne
    have hS:Except.error (wrg p e)=O:=by
     rw[← hS,← ACV];show _=if sE p e≠0 then Except.error (sE p e) else _
     rw[if_pos (by rw[ACV]; exact hne)]
    simp -implicitDefEqProofs only[vQ,BD,↓reduceIte,jA,enP,jM,hb,f4,ZV,NK q4];refine⟨_,hS.symm,DZ q4,ADO (fun k y q => ?_) (by rw[zZ]; have:=kd.len; have:=hx.le; omega),by trivial,by trivial,by trivial⟩;have:=CB q;rw[jU (by omega)];exact hkB nb H kd k y q
   have hst:stE (dg0.map Nd.raw) p e=0:=by rw[AGK vd0]; exact hne
   obtain⟨hv0,hx0,hok⟩:=AKT hst;rw[AF9 hne (ACV p e)] at hS;simp -implicitDefEqProofs only[vQ,BD,↓reduceIte,jA,enP,WJ,hne,show((0:Int) != 0)=false from rfl,f1,f7,f9,EW hi,mE];have W0:=Wk.rfl' s;refine(A01 G (RPk.of hv0) hs.vars e hok (AOA hx0) nb l false H s).use (k:=fun w=>(trL w 0).bnd fun f=>JR t f) (TOT:=rn (AHL p e t) l false) rfl ?_;rintro w l1 e1' nb1 _ H1 he1 x1 ⟨rfl,hw16⟩ ow hS1 s1 k1;have W1:=W0.go he1 x1 s1 k1;simp -implicitDefEqProofs only[vQ,BD,↓reduceIte,jA,f7];refine(ACY G s1 w hw16 ow).use hS1 ?_;rintro f l2 e2' nb2 _ H2 he2 x2 rfl of hS2 s2 k2;have W2:=W1.go he2 x2 s2 k2;simp -implicitDefEqProofs only[vQ,BD,↓reduceIte,jA,f7,f8];refine(rand G s2 t f (W2.lt fun _=>ht) of).use (k:=fun u=>ret u) (TOT:=rn (AHL p e t) l false) (by rw[U2]; exact hS2) ?_;rintro u l3 e3' nb3 _ H3 he3 x3 rfl ou hS3 s3 k3;have W3:=W2.go he3 x3 s3 k3;have kd3:=kd.trans W3.k
   have nn : ∀ c,c < X.length→c≠nb∧c ∉ [bb,ba,bk]:=fun c hc=>⟨by
    rcases kd.nn with q | q <;> omega,by simp; omega⟩
   have q2:=W3.k.keep _ _ q2 (nn _ (by omega)).2 (nn _ (by omega)).1;have q4:=W3.k.keep _ _ q4 (nn _ (by omega)).2 (nn _ (by omega)).1
   cases e3' with
   | true =>
     have hc:AHL p e t l=none:=hS3.symm;rw[hc] at hS
     have n3:h.length+1≠nb3:=by rcases kd3.nn with q | q <;> omega
     simp -implicitDefEqProofs only[vQ,BD,↓reduceIte,jA,enP,XO,f7,s3.le,show((2:Int) != 0)=true from rfl];refine ES (.ones [0,1,2,3] (.alt 4 (.ones [5,6,7] .done) (.alt 5 (.ones [4,6,7] .done) .non))) (by kernel_rfl) ?_;simp only[DN,IA,jT,jS];have sS:=fun B=>s3.set (c:=h.length+1) (by omega) (by omega) (by omega) n3 B
     simp -implicitDefEqProofs only[vQ,YB,↓reduceIte,jA,jO,enP,XO,jM,ZV,f4,f7,s3.le,NK q4,(sS _).le,show((2:Int) != 0)=true from rfl,and_true]
     have he:=fun(B:ABlk)=>ADO (h:=h) (H:=H3.set (h.length+1) B) (fun k y q=>by
      have:=CB q;rw[jU (by omega)]
      exact hkB nb3 H3 kd3 k y q) (by rw[zZ]; have:=kd3.len; have:=hx.le; omega)
     refine⟨⟨_,hS.symm,DZ q4,he _,by trivial,by trivial,by trivial⟩,⟨_,hS.symm,DZ q4,he _,by trivial,by trivial,by trivial⟩⟩
   | false =>
     have hc:AHL p e t l=some (u,l3):=hS3.symm;rw[hc] at hS;simp -implicitDefEqProofs only[vQ,BD,↓reduceIte,jA,enP,XO,Bool.false_eq_true,f7,s3.le,show((0:Int) != 0)=false from rfl,f9,wrap_succ (show i < 9223372036854775807 by omega)];exact⟨n - 1,by omega,i+1,u,l3,nb3,by omega,hS,ou rfl,s3,kd3,q2,q4,by trivial,by trivial,by trivial,by trivial,by trivial,by trivial⟩
  ·have hi : ¬ i < es.length:=by simpa using hc
   rw[List.drop_eq_nil_of_le (by omega)] at hS;simp -implicitDefEqProofs only[vQ,↓reduceIte,jA];exact⟨t,l,nb,hS.symm,s,kd,q4,f4,f7,f8⟩
 ·clear q2 q4
  rintro F H ⟨t,l,nb,hok,s,kd,q4,f4,f7,f8⟩
  have n3:h.length+1≠nb:=by rcases kd.nn with q | q <;> omega
  simp -implicitDefEqProofs only[vQ,BD,↓reduceIte,jA,enP,Q4,jM,f4,f7,f8,s.ll,AX9,ANA q4];rw[KA _ _ _ _ _ _ _ _ _ _ _ (show _=AV.ptr (h.length+1) 0 0 by first | exact f4 | (simp -implicitDefEqProofs only[f4])),J8 (DZ q4)];simp -implicitDefEqProofs only[AA,↓reduceIte,jA];refine⟨_,rfl,ADO (fun k y q => ?_) (by rw[zZ]; have:=kd.len; have:=hx.le; omega),.inr ⟨t,l,nb,hok,?_,?_,rfl⟩⟩
  ·have:=CB q
   rw[jU (by omega)];exact hkB nb H kd k y q
  ·have:=hx.le
   rcases kd.nn with q | q <;> omega
  ·rw[jU n3]; exact s.n
 ·clear q2 q4
  rintro F H ⟨k,hk,q4,he,f4,f5,f6⟩;simp -implicitDefEqProofs only[vQ];rw[KA _ _ _ _ _ _ _ _ _ _ _ f4,J8 q4];exact⟨_,rfl,he,.inl ⟨k,hk,by rw[f5,f6]; rfl⟩⟩
theorem AKE {p:Pr}{es:List Ex}{v u:AV}(hv:AQI (RP p es 1 dg0) v)(hu:AQI (RP p es 1 dg0) u)(hb : ∀ t l,RP p es 1 dg0 = .ok (t,l)→l.length≤1048576) :
  ∃ m1 k1 r1 m2 k2 r2 D t k,v = .tup [.agg [.sl m1 k1 r1],.int .i64 t,.int .i64 k]∧u = .tup [.agg [.sl m2 k2 r2],.int .i64 t,.int .i64 k]∧isD (.agg [.sl m1 k1 r1]) D∧isD (.agg [.sl m2 k2 r2]) D∧D.length≤1048576:=by
 cases hO:RP p es 1 dg0 with
 | error k =>
   rw[hO] at hv hu;obtain rfl:v=_:=hv;obtain rfl:u=_:=hu;exact⟨_,_,_,_,_,_,[],_,_,rfl,rfl,isD.nil,isD.nil,by simp⟩
 | ok q =>
   obtain⟨t,l⟩:=q;rw[hO] at hv hu;obtain⟨m1,rfl⟩:=hv;obtain⟨m2,rfl⟩:=hu;exact⟨_,_,_,_,_,_,l.map Nd.raw,_,_,rfl,rfl,isD.dg m1 l,isD.dg m2 l,by rw[jR]; exact hb t l hO⟩
theorem AKF (p:Pr) : ∀ (es:List Ex) (t:Nat) (l:Dg),VD l→t < l.length→∀ t' l',RP p es t l = .ok (t',l')→l'.length≤1048576
 | [],t,l,v,_,t',l',h=>by cases h; have:=v.mx; omega
 | e :: es,t,l,v,ht,t',l',h=>by
   by_cases hne:wrg p e=0
   ·have hst:stE (dg0.map Nd.raw) p e=0:=by rw[AGK vd0]; exact hne
    obtain⟨hv0,hx0,hok⟩:=AKT hst;rw[AF9 hne (ACV p e)] at h
    cases hc:AHL p e t l with
    | none=>rw[hc] at h; cases h
    | some q =>
      obtain⟨u,l2⟩:=q;rw[hc] at h;have hc2:((YI p (L9 p) e).bnd fun f=>JR t f) l=some (u,l2):=by rw[← hc]; unfold AHL YI; rw[GH]
      have hsp:=(AGJ (lvs:=L9 p) (A5O hv0) hok v).bnd (k:=fun f=>JR t f) (R:=fun r l'=>r < l'.length) fun f l1 v1 x1 q1=>(OE v1 (x1.lt ht) q1.1).mono fun _ _ _ _ q=>q.1
      obtain⟨v2,x2,_,r2⟩:=hsp u l2 hc2;exact AKF p es u l2 v2 r2 t' l' h
   ·have h':(if sE p e≠0 then Except.error (sE p e) else _)=_:=h
    rw[if_pos (by rw[ACV]; exact hne)] at h';cases h'
end
theorem A34 {l:List Ex}{h:Hp}{m:SM}{i:Nat}(hi:i≤l.length):MB Tryz.prog h 23 (.sl m 4 (l.map D8)) none (some (.int .i64 (i:Nat))) none=some (.sl (AL6 m i (l.map D8).length) 4 ((l.take i).map D8)):=by
 have hs:szO Tryz.prog 37=some 4:=QB;rw[ANB AQ0 hs (by rw[jR]; exact hi),List.map_take]
section
variable (G:Nat→AV)
set_option maxHeartbeats 4000000 in
theorem APM (hG:GOk G)(p:Pr)(hs:PrS p)(es:List Ex)(sm:SM)(hl:es.length≤1048576)(hw : ∀ e∈es,wt e≤1048576)(h:Hp):PCall (En G) 5 [.agg (EE p),.sl sm 4 (es.map D8)] h (.bool true):=by
 refine ACalls.pure0 rfl ?_;refine acN Tryz.func5 rfl ?_;show awp _ _ _ _ _ (EK _ [.tmp 4] _);have hmin:min (((es.map D8).length:Nat):Int) 6=((min es.length 6:Nat):Int):=by rw[jR]; omega
 simp -implicitDefEqProofs only[vQ,qU,wB,BD,OO,AMX,AGR,↓reduceIte,jA,enP,UU,UW,AMX,AGR,hmin,qU,wB,A34 (show min es.length 6≤es.length by omega)];have hwk : ∀ e∈es.take (min es.length 6),wt e≤1048576:=fun e he=>hw e (List.mem_of_mem_take he)
 have hlk:(es.take (min es.length 6)).length≤6:=by rw[List.length_take]; omega
 generalize AL6 sm (min es.length 6) (es.map D8).length=sm';generalize es.take (min es.length 6)=xs at hwk hlk ⊢;have hx:ext h (h++[ABlk.live 5 [EE p]]):=⟨_,rfl⟩;have q2:(h++[ABlk.live 5 [EE p]])[h.length]? = some (.live 5 [EE p]):=CU _ _;generalize h++[ABlk.live 5 [EE p]]=X at hx q2 ⊢;refine F8 0 (fun F H=>H[h.length]? = some (.live 5 [EE p])∧ext h H∧F 1 = .sl sm' 4 (xs.map D8)∧F 2 = .ptr h.length 0 0) (fun F H=>ext h H∧F 4 = .bool true) ?_ ?_ ?_
 ·refine DX (fun n F H => ∃ i,n+i=xs.length∧H[h.length]? = some (.live 5 [EE p])∧ext h H∧F 1 = .sl sm' 4 (xs.map D8)∧F 2 = .ptr h.length 0 0∧F 18 = .sl sm' 4 (xs.map D8)∧F 19 = .int .i64 (xs.length:Nat)∧F 20 = .int .i64 (i:Nat)) xs.length ⟨0,rfl,q2,hx,by simp -implicitDefEqProofs only[AA,↓reduceIte,jA],by simp -implicitDefEqProofs only[AA,↓reduceIte,jA],by simp -implicitDefEqProofs only[AA,↓reduceIte,jA],by simp -implicitDefEqProofs only[AA,↓reduceIte,jA]; first | done | rw[jR],by simp -implicitDefEqProofs only[AA,↓reduceIte]; rfl⟩ ?_
  clear q2 hx;rintro n F H ⟨i,hn,q2,hx,f1,f2,f18,f19,f20⟩;have ec:decide (((i:Nat):Int) < (xs.length:Nat))=decide (i < xs.length):=by rw[decide_eq_decide]; omega
  simp -implicitDefEqProofs only[vQ,BD,↓reduceIte,enP,f19,f20,ec];refine CZ (fun hc => ?_) (fun hc => ?_)
  ·have hi:i < xs.length:=by simpa using hc
   have hwi:=hwk _ (zC hi);have mE:=GV (P:=Tryz.prog) (k:=4) (h:=H) VO QB IK hi;generalize xs[i]=e at hwi mE;simp -implicitDefEqProofs only[vQ,BD,↓reduceIte,jA,enP,WJ,jM,f18,f20,EW hi,mE,AQA,AO1 _ _ _ (show wH [AV.int .i64 0,AV.int .i64 0,AV.str ⟨#[]⟩,AV.sl .nil 0 []]=4 from rfl)];have qe:=CU H (ABlk.live 4 [D8 e]);have q2:=BR (x:=ABlk.live 4 [D8 e]) q2;have hx:=hx.app [ABlk.live 4 [D8 e]];simp -implicitDefEqProofs only[vQ,BD,↓reduceIte,jA,enP,f2,ASA q2,J7 qe,ZV];refine(AO3 G p hs e hwi isD.nil _).use ?_;rintro v ⟨b,rfl⟩;cases b
   ·simp -implicitDefEqProofs only[vQ,BD,↓reduceIte]
    refine(AF3 G hG _).use ?_;simp -implicitDefEqProofs only[vQ,BD,↓reduceIte];exact⟨hx,by trivial⟩
   ·simp -implicitDefEqProofs only[vQ,BD,↓reduceIte,jA,Bool.not_true,enP,f20,wrap_succ (show i < 9223372036854775807 by omega)]
    exact⟨n - 1,by omega,i+1,by omega,q2,hx,by trivial,by trivial,by trivial,by trivial,by trivial⟩
  ·simp -implicitDefEqProofs only[vQ,↓reduceIte,jA]
   exact⟨q2,hx,f1,f2⟩
 ·clear q2 hx
  rintro F H ⟨q2,hx,f1,f2⟩;simp -implicitDefEqProofs only[vQ,BD,↓reduceIte,jA,enP,f1,f2,ASA q2];refine(AKL G hG p hs xs sm' (by omega) hwk H).use ?_;intro v hv;have hbd:=fun t l q=>AKF p xs 1 dg0 vd0 (by decide) t l q
  obtain⟨m1,k1,r1,_,_,_,D1,t,k,hv1,_⟩:=AKE hv hv hbd;rw[hv1] at hv ⊢;have q2:=BR (x:=ABlk.live 1 [[.sl m1 k1 r1]]) q2;have q7:=CU H (ABlk.live 1 [[.sl m1 k1 r1]]);have hx:=hx.app [ABlk.live 1 [[.sl m1 k1 r1]]];simp -implicitDefEqProofs only[vQ,jS,jT,BD,↓reduceIte,jA,enP,jM,TG,stT,f1,f2,ASA q2];generalize H++[ABlk.live 1 [[.sl m1 k1 r1]]]=Y at q2 q7 hx ⊢;refine(AXJ G p hs xs sm' (by omega) hwk Y).use ?_;intro u hu;obtain⟨m1',k1',r1',m2,k2,r2,D,t',k',hv2,rfl,d1,d2,hD⟩:=AKE hv hu hbd
  injection hv2 with hv2
  injection hv2 with c1 hv2
  injection hv2 with c2 hv2
  injection hv2 with c3 _
  rw[← c1] at d1;have c2:t=t':=by injection c2
  have c3:k=k':=by injection c3
  subst c2;subst c3;have q8:=CU Y (ABlk.live 1 [[.sl m2 k2 r2]]);have q7:=BR (x:=ABlk.live 1 [[.sl m2 k2 r2]]) q7;simp -implicitDefEqProofs only[vQ,jS,jT,BD,↓reduceIte,jA,enP,jM,TG,stT,J8 q7,J8 q8];refine(ARB G d1 d2 hD hD _).use ?_;rw[decide_eq_true rfl];simp -implicitDefEqProofs only[vQ,CW,BD,↓reduceIte,jA,enP,show(t == t)=true by simp,show(k == k)=true by simp];refine(AF3 G hG _).use ?_;simp -implicitDefEqProofs only[vQ,BD,↓reduceIte,jA];exact⟨by trivial,hx.app _⟩
 ·clear q2 hx
  rintro F H ⟨hx,f4⟩;simp -implicitDefEqProofs only[vQ];exact⟨f4,hx⟩
end
end Go.Proofs.YtgnoolgeijmlaaaGreatDoor.Bl
namespace Go.Proofs.YtgnoolgeijmlaaaGreatDoor.Cov
open Sm Bins Go.Proofs.YtgnoolgeijmlaaaGreatDoor.Bd Go.RowKit
structure Es where
 m:SM
 l:List Ex
def A1C (x:Es)(b:Nat):Prop:=okL okE x.l b
theorem A5Q:Rd Tryz.prog 23 (fun z:Es => [.sl z.m 4 (z.l.map D8)]) A1C:=by
 intro n
 cases n with
 | zero=>exact RdAt.zero
 | succ n=>exact RdAt.map (fun x:SM × List Ex=>(⟨x.1,x.2⟩:Es)) (PW Tryz.underlying23 AZW (by decide) IK (rdE n)) (fun _=>rfl) (fun x b h=>U6 h)
theorem A3X {x:Es}{b:Nat}(h:A1C x b)(hb:b≤1048576):x.l.length≤1048576∧∀ e∈x.l,wt e≤1048576:=by
 refine⟨Nat.le_trans (okL.length h) hb,fun e he => ?_⟩;have h1:=AC3 h;have h2:=TL he;omega
end Go.Proofs.YtgnoolgeijmlaaaGreatDoor.Cov
