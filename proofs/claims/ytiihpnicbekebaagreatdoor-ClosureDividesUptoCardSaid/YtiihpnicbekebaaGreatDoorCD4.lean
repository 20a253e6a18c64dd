/- Part 4 of the proof (N7, N8, A1, Q1, Q3, R2, R3, Q4, Q6, H1, H2, H3, X1, X3, X4, R9, X2, X5, X6, U1, U2, U3, U4, U5, U6, U7, U8, V1, V2, V3, V4, V5, V6, V7, V8, Yc, Qc, W1, X7, X8, X14, X21, W2, W3, O1, O2, O3, O4, O6, O11, O12, O13, O14); no condition. -/
import Derived.Shelf.Spec.SlicesGrow
import Derived.Test.YtiihpnicbekebaaGreatDoorCD3
set_option linter.unusedVariables false
set_option linter.unusedSimpArgs false
set_option maxRecDepth 8000
set_option maxHeartbeats 4000000
open Go.Proofs.YtiihpnicbekebaaGreatDoor.Sm.ABlk renaming live→qF
open Bool renaming and_eq_true→jT,eq_iff_iff→wI,false_or→wL,not_false→jE,not_true→qV,or_false→zY,or_true→zQ,true_and→wM
open Go.Proofs.Tryz renaming prog→jA
open Int renaming toNat_natCast→qN
open List renaming any_eq_false→qM,any_eq_true→qK,append_assoc→zC,append_nil→jO,cons_append→zF,contains_cons→zA,contains_nil→jY,drop_eq_getElem_cons→zS,drop_eq_nil_of_le→jR,drop_zero→zM,eq_nil_of_length_eq_zero→qU,getD_eq_getElem?_getD→qY,getElem?_append_left→qH,getElem?_eq_getElem→jI,getElem?_eq_none→zW,getElem?_set_ne→zL,getElem?_set→zG,getElem_mem→jH,getElem_of_mem→qR,length_append→jS,length_cons→zH,length_map→jL,length_pos_iff→qQ,length_set→qX,length_take→jU,length→wH,map_append→qL,map_cons→jK,map_nil→jM,mem_append→zX,mem_cons→zK,mem_map→qE,mem_of_getElem?→zU,mem_singleton→qP,nil_append→qA,range→zI,replicate→zD,take_append_drop→wC,take_of_length_le→jJ,take_succ_eq_append_getElem→jW,take_zero→qB
open Nat renaming add_mul→qC,add_zero→jV,le_of_ble_eq_true→jB,le_refl→jF,le_trans→wE,lt_or_ge→jZ,mod_lt→qW,reduceAdd→jP,reduceBEq→zB,reduceEqDiff→jC,zero_add→jG
open Option renaming getD_none→jQ,getD_some→jD,map_none→zZ,map_some→zO
namespace Go.Proofs.YtiihpnicbekebaaGreatDoor.Cov
open Sm Bins Go.RowKit
variable {a b ba k t:Nat} {v:Cvr} {g:Gl} {H h:Hp} {P:Program} {R:AV->Hp->Prop} {F:Fr} {x:AV} {row:List AV} (G:Nat->AV )
def cellAt (l:List Is)(i k:Nat):Int:=match l[i]? with
 | some x=>(match x.l[k]? with|some z=>z|none=>0)
 | none=>0
def PY (v:Cvr)(g:Gl):Int:=if g.cross then cellAt v.crs g.idx g.at_ else cellAt v.pts g.idx g.at_
def InL (l:List Is)(i k:Nat):Prop:=∃hi:i<l.length,k<(l[i]'hi).l.length
def InR (v:Cvr)(g:Gl):Prop:=if g.cross=true then InL v.crs g.idx g.at_ else InL v.pts g.idx g.at_
theorem rA {l:List Is}{i:Nat}(h:InL l i k):∃(hi:i<l.length) (hk:k<l[i].l.length),cellAt l i k=l[i].l[k]:=by
 obtain⟨hi,hk⟩:=h;refine⟨hi,hk,?_⟩;unfold cellAt;rw[jI hi];simp only;rw[jI hk]
def AQH (m:Mo)(g:Gl):Prop:=(g.cross=false∧∃p,m.pts[g.idx]?=some p∧g.at_<p.bins.length)∨(g.cross=true∧∃c,m.crs[g.idx]?=some c∧g.at_<GN (szs m c.pts))
theorem AOB {i:Nat}{p:Pt}:∀ {k:Nat} {g:Gl},g∈gPk i p k->g.cross=false∧g.idx=i∧g.at_<k
 | 0,g,h=>by cases h
 | k+1,g,h=>by
   simp only[gPk,zX] at h;rcases h with h|h
   .obtain⟨h1,h2,h3⟩:=AOB h; exact⟨h1,h2,U⟩
   .split at h
    .simp at h; subst h; exact⟨rfl,rfl,Nat.lt_succ_self k⟩
    .cases h
theorem AUZ {m:Mo}:∀ {i:Nat} {g:Gl},g∈gP m i->AQH m g
 | 0,g,h=>by cases h
 | i+1,g,h=>by
   simp only[gP,zX] at h;rcases h with h|h
   .exact AUZ h
   .split at h
    .rename_i p hp
     obtain⟨h1,h2,h3⟩:=AOB h;exact .inl ⟨h1,p,by rw[h2]; exact hp,h3⟩
    .cases h
theorem AOC {m:Mo}{i:Nat}{c:Cr}:∀ {k:Nat} {g:Gl},g∈gCk m i c k->g.cross=true∧g.idx=i∧g.at_<k
 | 0,g,h=>by cases h
 | k+1,g,h=>by
   simp only[gCk,zX] at h;rcases h with h|h
   .obtain⟨h1,h2,h3⟩:=AOC h; exact⟨h1,h2,U⟩
   .split at h
    .simp at h; subst h; exact⟨rfl,rfl,Nat.lt_succ_self k⟩
    .cases h
theorem AU0 {m:Mo}:∀ {i:Nat} {g:Gl},g∈gC m i->AQH m g
 | 0,g,h=>AUZ h
 | i+1,g,h=>by
   simp only[gC,zX] at h;rcases h with h|h
   .exact AU0 h
   .split at h
    .rename_i c hc
     obtain⟨h1,h2,h3⟩:=AOC h;exact .inr ⟨h1,c,by rw[h2]; exact hc,h3⟩
    .cases h
theorem kY {α:Type}{ok:α->Is->Bool}:∀ {ws:List α} {xs:List Is},OV ok ws xs=true->∀(i:Nat) (a:α),ws[i]?=some a->∃x,xs[i]?=some x∧ok a x=true
 | [],[],_,i,a,h=>by simp at h
 | w::ws,x::xs,h,i,a,ha=>by
   simp only[OV,jT] at h
   cases i with
   | zero=>simp at ha; subst ha; exact⟨x,rfl,h.1⟩
   | succ i=>exact kY h.2 i a (BL ha)
 | [],_::_,h,_,_,_=>by cases h
 | _::_,[],h,_,_,_=>by cases h
theorem AN3 {l:List Is}{i n:Nat}{x:Is}(hx:l[i]?=some x)(hn:x.l.length=n)(hk:k<n):InL l i k:=by
 obtain⟨hi,e⟩:=List.getElem?_eq_some_iff.1 hx;exact⟨hi,by rw[e]; omega⟩
theorem AWQ {m:Mo}(hf:KZ m v=true)(hg:g∈goals m):InR v g:=by
 unfold KZ at hf;simp only[jT] at hf;obtain⟨⟨⟨⟨_,h1⟩,h2⟩,_⟩,_⟩:=hf;unfold InR;rcases AU0 hg with⟨hc,p,hp,hk⟩|⟨hc,c,hcc,hk⟩
 .rw[if_neg (by simp [hc])]
  obtain⟨x,hx,ho⟩:=kY h1 _ _ hp;unfold okP at ho;simp only[jT,beq_iff_eq] at ho;exact AN3 hx ho.1 hk
 .rw[if_pos hc]
  obtain⟨x,hx,ho⟩:=kY h2 _ _ hcc;unfold okC at ho;simp only[jT,beq_iff_eq] at ho;exact AN3 hx ho.1 hk
theorem A0G (g:Gl):(JB g)[0]?=some (.bool g.cross):=rfl
theorem A0F (g:Gl):(JB g)[1]?=some (.n (g.idx:Int)):=rfl
theorem A0E (g:Gl):(JB g)[3]?=some (.n (g.at_:Int)):=rfl
theorem bxG (h:Hp)(g:Gl):MP h (.agg (JB g))=some (.ptr h.length 0 0,h++[qF 4 [JB g]]):=rfl
theorem nH (v:Cvr)(g:Gl)(hi:InR v g)(h:Hp):PCall (En G) 62 [.agg (JB g),.agg (encV v)] h (.bool (decide (PY v g>0))):=by
 refine ACalls.pure0 rfl ?_;refine acT Tryz.func62 4 ?_;have gg:(h++[qF 4 [JB g]]++[qF 4 [encV v]])[h.length]?=some (qF 4 [JB g]):=AL (AX _ _);have gv:=AX (h++[qF 4 [JB g]]) (qF 4 [encV v]);have hx:∃x,h++[qF 4 [JB g]]++[qF 4 [encV v]]=h++x:=⟨_,List.append_assoc _ _ _⟩;refine DI @gZ @bxG @bxV ?_
 generalize h++[qF 4 [JB g]]++[qF 4 [encV v]]=H at gg gv hx|-
 generalize (h++[qF 4 [JB g]]).length=vb at gv|-
 have l0:BO jA H 4 (.ptr h.length 0 0)=some (.bool g.cross):=by rw[BH ag4 gg (row:=JB g) rfl,A0G]
 have l1:BO jA H 3 (.ptr h.length 0 1)=some (.n (g.idx:Int)):=by rw[BH ag3 gg (row:=JB g) rfl,A0F]
 have l3:BO jA H 3 (.ptr h.length 0 3)=some (.n (g.at_:Int)):=by rw[BH ag3 gg (row:=JB g) rfl,A0E]
 have lv0:BO jA H 25 (.ptr vb 0 0)=some (.sl v.pm 1 (v.pts.map KL)):=by rw[BH XN gv (row:=encV v) rfl,encV0]
 have lv1:BO jA H 25 (.ptr vb 0 1)=some (.sl v.cm 1 (v.crs.map KL)):=by rw[BH XN gv (row:=encV v) rfl,encV1]
 refine AO l0 ?_;unfold InR at hi;cases hc:g.cross
 .rw[if_neg (by simp [hc])] at hi
  obtain⟨h1,h2,h3⟩:=rA hi;have hcg:PY v g=v.pts[g.idx].l[g.at_]:=by unfold PY; rw[hc,if_neg A8,h3]
  refine Z ?_;refine DJ AZ ?_;simp -implicitDefEqProofs only[vQ,LQ,↓reduceIte,jC,jP,enP,VZ,KJ,dM,XE,gZ,AHC,l1,l3,lv0,CG h1,BP MO h1,SK,CG h2,BP ag3 h2,encI0];exact⟨by rw[hcg],hx⟩
 .rw[if_pos hc] at hi
  obtain⟨h1,h2,h3⟩:=rA hi;have hcg:PY v g=v.crs[g.idx].l[g.at_]:=by unfold PY; rw[hc,if_pos rfl,h3]
  refine Z ?_;refine DJ AZ ?_;simp -implicitDefEqProofs only[vQ,LQ,N7,↓reduceIte,jC,jP,enP,VZ,KJ,dM,XD,gZ,AHC,l1,l3,lv1,CG h1,BP MO h1,SK,CG h2,BP ag3 h2,encI0];exact⟨by rw[hcg],hx⟩
theorem AKH (g:Gl):(JB g).all AV.leaf=true:=rfl
theorem AO0 (g:Gl):(encH g).all AV.frozen=true:=rfl
theorem A3S (h:Hp):F9 jA h 118=some (.ptr h.length 0 0,h++[qF 4 [[.bool false,.n 0,.sl .nil 0 [],.n 0]]]):=FC (row:=[.bool false,.n 0,.sl .nil 0 [],.n 0]) AZ
theorem A2P (h:Hp)(g:Gl)(row:List AV)(hr:row.length=4):DX jA (h++[qF 4 [row]]) 118 (.ptr h.length 0 0) (.agg (JB g))=some (h++[qF 4 [JB g]]):=by
 rw[RP (PI (AKH g)) (by rw[UE]; exact eP) (by rw[UE,hr]; exact jF _)];have:splice row 0 (JB g)=JB g:=by unfold splice; simp [UE,hr]
 rw[this]
theorem ldG (hb:h[b]?=some (qF 4 [JB g])):BO jA h 118 (.ptr b 0 0)=some (.agg (JB g)):=by
 rw[EH AVJ eP hb rfl (by rw[UE]; exact jF 4)]; rfl
theorem ldH (hb:h[b]?=some (qF 4 [JB g])):BO jA h 34 (.ptr b 0 0)=some (.agg (encH g)):=by
 rw[EH AK5 fQ hb rfl (by rw[UE]; omega)]; rfl
theorem A3O (h:Hp)(g:Gl):C9 jA false h 49 1 [(0,.agg (encH g))]=some (.sl .full 3 [encH g],h):=by
 have h1:Tryz.prog.underlying 49=some (.slice 34):=AQW;unfold C9;simp only[h1,fQ,AQP];have h2:aU 3 0 [(0,AV.agg (encH g))]=some [encH g]:=rfl;simp [h2,AO0]
theorem ZV {m:Mo}(hf:KZ m v=true):FT m=0:=by
 unfold KZ at hf;simp only[jT,beq_iff_eq] at hf;exact hf.1.1.1.1
theorem AAX {α:Type}(p:α->Bool)(xs:List α)(k:Nat)(hk:k<xs.length):(xs.take (k+1)).filter p=(xs.take k).filter p++(if p xs[k]=true then [xs[k]] else []):=by
 rw[List.take_succ_eq_append_getElem hk,List.filter_append]; simp [List.filter_cons]
def KP (m:Mo)(v:Cvr):List Gl:=if KZ m v=true then (goals m).filter (fun g => !decide (PY v g>0)) else []
theorem AAG (m:Mo)(v:Cvr)(hF:∀h,PCall (En G) 55 [.agg (CZ m),.agg (encV v)] h (.bool (KZ m v)))(hL:Good m->∀h,PCall (En G) 61 [.agg (CZ m)] h (.sl (nm (goals m)) 4 ((goals m).map JB)))(h:Hp):PCall (En G) 21 [.agg (CZ m),.agg (encV v)] h (.sl (nm (KP m v)) 3 ((KP m v).map encH)):=by
 refine KT frzH ?_;refine acT Tryz.func21 4 ?_;have t:=TwoV.mk' h m v;have hvb:h.length<(h++[qF 2 [CZ m]]).length:=A8;refine AQ @bxM @bxV ?_
 generalize h++[qF 2 [CZ m]]++[qF 4 [encV v]]=H at t|-
 generalize (h++[qF 2 [CZ m]]).length=vb at t hvb|-
 refine AQ (ldM t.gm) (ldV t.gv) ?_;refine(hF _).uu ?_;cases hf:KZ m v
 .refine Z ?_
  have:KP m v=[]:=by unfold KP; rw[hf]; rfl
  rw[this];exact⟨t.hx,outG.nil _ _ _ _⟩
 have hg:=RI (ZV hf);have hgl:=pL hg;have hin:∀g∈goals m,InR v g:=fun g hg'=>AWQ hf hg'
 refine AO (ldM t.gm) ?_;refine(hL hg _).use ?_;have hrn:KP m v=(goals m).filter (fun g => !decide (PY v g>0)):=by unfold KP; rw[if_pos hf]
 rw[hrn]
 generalize goals m=gs at hgl hin|-
 refine AO AZH ?_;refine BB (fun n F H'=>∃k,n+k=gs.length∧F 3=.ptr vb 0 0∧F 13=.sl (nm gs) 4 (gs.map JB)∧F 14=.n gs.length∧F 15=.n (k:Nat)∧H'[vb]?=some (qF 4 [encV v])∧ext h H'∧(∀b,isB (F 5) b->vb<b)∧outG 3 encH h ((gs.take k).filter (fun g => !decide (PY v g>0))) (F 5) H') gs.length ⟨0,A8,AC,AC,AC,AC,t.gv,t.hx,fun b hb=>hb.elim,outG.nil _ _ _ _⟩ ?_;rintro n F H' ⟨k,hk,f3,f13,f14,f15,gv,he,hlt,ho⟩;refine AQ f14 f15 ?_;refine DU ?_ ?_<;>intro hk'
 .have hcl:((gs.take k).filter (fun g => !decide (PY v g>0))).length<=k:=wE (List.length_filter_le _ _) MS
  have hct:=AAX (fun g => !decide (PY v g>0)) gs k hk';have ho1:=ho.app [qF 4 [JB gs[k]]];have he1:ext h (H'++[qF 4 [JB gs[k]]]):=he.app _;simp -implicitDefEqProofs only[vQ,CJ,List.map_cons,List.map_nil,↓reduceIte,jC,bNf,enP,AZR,Option.getD_none,f3,f13,f15,CG hk',CY AVJ eP UE hk',A3S,A2P _ _ [.bool false,.n 0,.sl .nil 0 [],.n 0] rfl,ldG (AX H' _),ldV (AL (x:=qF 4 [JB gs[k]]) gv)];refine(nH G v gs[k] (hin _ (List.getElem_mem hk')) _).uu ?_;cases hp:decide (PY v gs[k]>0)
  .obtain⟨v',H2,ha,ho',hkeep,he',hle,hb'⟩:=ho1.append AQW fQ AQP AXL U U he1 gs[k]
   refine DI @gZ (ldH (AX H' (qF 4 [JB gs[k]]))) A3O ?_;refine JR (v:=v') (h:=H2) ha ?_;refine AQ f15 (CW k) ?_;refine⟨n-1,U,k+1,U,f3,f13,f14,rfl,hkeep _ _ (AL gv) (fun e=>by have:=hlt _ e; omega),he',fun b hbb=>?_,?_⟩
   .have h1:=hb' b hbb; have h2:=AB gv; rw[h1]; simp; omega
   .rw[hct,hp]; exact ho'
  .refine AQ f15 (CW k) ?_
   refine⟨n-1,U,k+1,U,f3,f13,f14,rfl,AL gv,he1,hlt,?_⟩;rw[hct,hp];simp only[Bool.not_true,Bool.false_eq_true,if_false,jO];exact ho1
 .rw[jJ U] at ho
  refine Z ?_;exact⟨he,ho⟩
theorem kT (hG:GOk G)(hT:iE G)(m:Mo)(v:Cvr)(hm:MoOk m)(hv:CvOk v)(h:Hp):PCall (En G) 21 [.agg (CZ m),.agg (encV v)] h (.sl (nm (KP m v)) 3 ((KP m v).map encH)) :=
 AAG G m v (fits_prog G hG hT m v hm hv) (AD2 G m hm) h
def zeros (n:Nat):List Int:=List.replicate n 0
def zIs (n:Nat):Is:=⟨.full,zeros n⟩
def zPs (m:Mo):List Is:=m.pts.map fun p=>zIs p.bins.length
def zCs (m:Mo):List Is:=m.crs.map fun c=>zIs (GN (szs m c.pts))
def lL (m:Mo):Cvr:=⟨nm (zPs m),zPs m,nm (zCs m),zCs m,0,0⟩
theorem KH (h:Hp)(x y:ABlk):(h++[x]).set h.length y=h++[y]:=A8
theorem AU9 (h:Hp)(m:SM)(xs:List (List AV)):C9 jA false h 25 1 [(0,.sl m 1 xs)]=some (.sl .full 1 [[.sl m 1 xs]],h):=AZ
theorem AZX:Frz KL:=fun _ _ _ _=>⟨rfl,rfl⟩
theorem JA (hF:F a=.ptr b 0 0)(h1:BO P h t (.ptr b 0 0)=some x):NU P [.cell a t] R .ret F h=R x h:=by simp [NU,cG,UL,hF,h1]
theorem AW8 {u:Nat}{y:AV}{bb:Nat}(hF:F a=.ptr ba 0 0)(hG:F b=.ptr bb 0 0)(h1:BO P h t (.ptr ba 0 0)=some x)(h2:BO P h u (.ptr bb 0 0)=some y):NU P [.cell a t,.cell b u] R .ret F h=R (.tup [x,y]) h:=by simp [NU,cG,Q9,UL,hF,hG,h1,h2]
theorem AHF {u c:Nat}{y:AV}{bb:Nat}(hF:F a=.ptr ba 0 0)(hG:F b=.ptr bb 0 0)(h1:BO P h t (.ptr ba 0 0)=some x)(h2:BO P h u (.ptr bb 0 0)=some y):NU P [.cell a t,.cell b u,.tmp c] R .ret F h=R (.tup [x,y,F c]) h:=by simp [NU,cG,Q9,UL,hF,hG,h1,h2]
theorem uF {c:Nat}(hF:F a=.ptr ba 0 0)(h1:BO P h t (.ptr ba 0 0)=some x):NU P [.cell a t,.tmp c] R .ret F h=R (.tup [x,F c]) h:=by simp [NU,cG,Q9,UL,hF,h1]
def fzG {α:Type}(k:Nat)(f:α->List AV)(ys:List α):AV:=match ys with
 | []=>.sl .nil 0 []
 | _=>.sl .any k (ys.map f)
theorem NG {α:Type}{f:α->List AV}{ys:List α}{v:AV}(hf:Frz f)(ho:outG k f h ys v H)(n d:Nat)(hn:n<=h.length):FI n H (d+2) v=fzG k f ys:=by
 rcases ho with⟨rfl,rfl⟩|⟨hne,o,h2,rfl,h3⟩
 .rfl
 .rw[frz_own hf (wE hn h2) h3]
  cases ys with
  | nil=>exact absurd rfl hne
  | cons _ _=>rfl
theorem ZT {α:Type}{f:α->List AV}{ys:List α}:CvR (fzG k f ys) (.sl (nm ys) k (ys.map f)):=by
 cases ys with
 | nil=>exact CvR.sl (Cv.nil 0 k)
 | cons y ys=>exact CvR.refl _
theorem outG.app2 {t e:TypeId}{α:Type}{bs:Nat}{f:α->List AV}{ys:List α}{v:AV}(ho:outG k f h ys v H)(hu:P.underlying t=some (.slice e))(hs:szO P e=some k)(hz:SY P e=some k)(hb:KR P e=some bs)(hbs:bs<=4194304)(hl:ys.length<8388608)(he:h.length<=H.length)(y:α):
  ∃v' H',EP P true H t t v (.sl .full k [f y])=some (v',H')∧outG k f h (ys++[y]) v' H'∧(∀b x,H[b]?=some x->¬isB v b->H'[b]?=some x)∧H'.length=H.length+1∧(∀b,isB v' b->b=H.length)∧(∃o l,v'=.own o 0 l)∧∀e:Hp,e.length<=h.length->ext e H->ext e H':=by
 have h1:([f y]:List (List AV))≠[]:=A8;rcases ho with⟨rfl,rfl⟩|⟨hne,o,h2,rfl,h3⟩
 .exact⟨_,_,VL hu hs hz hb (IE H .full k [f y]) h1 (I5 A8 hbs),.inr ⟨A8,H.length,he,rfl,A8⟩,fun b x hb _=>IK hb,A8,fun b hb=>hb.symm,⟨_,_,rfl⟩,fun e _ hx=>hx.app _⟩
 .have hc:JF H (.own o 0 ys.length)=some (k,ys.map f):=by
   rw[J6 h3 A8,zM,jJ A8]
  refine⟨_,_,TK hu hs hz hb hc (IE H .full k [f y]) h1 (I5 MS hbs),.inr ⟨A8,H.length,he,A8,A8⟩,fun b x hb hn=>?_,A8,fun b hb=>hb.symm,⟨_,_,rfl⟩,fun e hl hx=>(hx.set (wE hl h2) _).app _⟩;have hn':¬o=b:=hn;refine IK ?_;rw[List.getElem?_set,if_neg hn']; exact hb
theorem IY {j:Nat}{cs:List AV}{v:AV}(hc:IB v=some cs)(hs:szO P t=some cs.length)(hb:H[b]?=some (qF k [row]))(hl:j+cs.length<=row.length):DX P H t (.ptr b 0 j) v=some (H.set b (qF k [splice row j cs])):=by
 rw[G9 (i:=0) hc hs hb rfl hl]; rfl
theorem mkF (h:Hp)(n:Nat)(hn:n<=1048576):GL jA false h 32 (.n (n:Int)) (.n (n:Int))=some (.sl .full 1 ((zeros n).map qencI),h):=by
 have hz:MB jA 3=some [.n 0]:=AZ;have hr:room n 8:=I5 U U;unfold GL;simp only[fP,sz3,uN,hz,Int.toNat_natCast];rw[if_pos ⟨U,Int.le_refl _,hr,rfl⟩];simp [zeros,qencI]
structure Tk where
 m:SM
 last:List Is
def QQ (t:Tk):List AV:=[.sl t.m 1 (t.last.map KL)]
theorem AA4 (t:Tk):(QQ t).length=1:=rfl
def zT:Tk:=⟨.nil,[]⟩
def zV:Cvr:=⟨.nil,[],.nil,[],0,0⟩
def zLs (m:Mo):List Is:=m.pts.map fun _=>⟨.nil,[]⟩
def LH:List AV:=[.sl .nil 0 []]
theorem AWY {α:Type}:Frz (fun _:α=>LH):=fun _ _ _ _=>⟨rfl,rfl⟩
theorem ARU:CvRow LH (KL ⟨.nil,[]⟩):=CvRow.cons rfl (Cv.nil 0 1) CvRow.nil
theorem ART {α:Type}{s:SM}(xs:List α):Cv (.sl s 1 (xs.map fun _=>LH)) (.sl s 1 ((xs.map fun _=>(⟨.nil,[]⟩:Is)).map KL)):=by
 rw[List.map_map];exact Cv.map fun _ _=>ARU
theorem AX1:CvR (.agg [.sl .nil 0 [],.sl .nil 0 [],.n 0,.n 0]) (.agg (encV zV)):=CvR.agg (CvRL.cons (CvR.sl (Cv.nil 0 1)) (CvRL.cons (CvR.sl (Cv.nil 0 1)) (CvRL.cons (CvR.refl _) (CvRL.cons (CvR.refl _) CvRL.nil))))
theorem AX2:CvR (.agg [.sl .nil 0 []]) (.agg (QQ zT)):=CvR.agg (CvRL.cons (CvR.sl (Cv.nil 0 1)) CvRL.nil)
def J9:List AV:=[.sl .nil 0 [],.sl .nil 0 [],.n 0,.n 0]
theorem AHV (h:Hp):F9 jA h 46=some (.ptr h.length 0 0,h++[qF 4 [J9]]):=FC (row:=J9) AZ
theorem AT2 (h:Hp):F9 jA h 94=some (.ptr h.length 0 0,h++[qF 1 [LH]]):=FC (row:=LH) AZ
theorem A1B:IR jA 46 []=some (.agg J9):=AZ
theorem A09:IR jA 94 []=some (.agg LH):=AZ
theorem stV (hb:H[b]?=some (qF 4 [row]))(hr:row.length=4):DX jA H 46 (.ptr b 0 0) (.agg (encV v))=some (H.set b (qF 4 [encV v])):=by
 rw[IY (cs:=encV v) rfl AIH hb (by rw[hr]; exact jF 4)];have:splice row 0 (encV v)=encV v:=by unfold splice; simp [encV_len,hr]
 rw[this]
theorem stZ (hb:H[b]?=some (qF 4 [row]))(hr:row.length=4):DX jA H 46 (.ptr b 0 0) (.agg J9)=some (H.set b (qF 4 [J9])):=by
 rw[IY (cs:=J9) rfl AIH hb (by rw[hr]; exact jF 4)];have:splice row 0 J9=J9:=by unfold splice; simp [J9,hr]
 rw[this]
theorem stT {t:Tk}(hb:H[b]?=some (qF 1 [row]))(hr:row.length=1):DX jA H 94 (.ptr b 0 0) (.agg (QQ t))=some (H.set b (qF 1 [QQ t])):=by
 rw[IY (cs:=QQ t) rfl AIG hb (by rw[hr]; exact jF 1)];have:splice row 0 (QQ t)=QQ t:=by unfold splice; rw[AA4,qB,jR U]; simp
 rw[this]
theorem AYI (hb:H[b]?=some (qF 1 [row]))(hr:row.length=1):DX jA H 94 (.ptr b 0 0) (.agg LH)=some (H.set b (qF 1 [LH])):=by
 rw[IY (cs:=LH) rfl AIG hb (by rw[hr]; exact jF 1)];have:splice row 0 LH=LH:=by unfold splice; rw[qB,jR (by rw[hr]; exact jF 1)]; simp
 rw[this]
theorem ldT {t:Tk}(hb:h[b]?=some (qF 1 [QQ t])):BO jA h 94 (.ptr b 0 0)=some (.agg (QQ t)):=by
 rw[EH A1P AIG hb rfl (by rw[AA4]; exact jF 1)]; rfl
theorem sV (hb:h[b]?=some (qF 4 [row]))(hr:row.length=4):BO jA h 46 (.ptr b 0 0)=some (.agg row):=by
 rw[EH A1Q AIH hb rfl (by rw[hr]; exact jF 4),zM,jJ U]
theorem sU (hb:h[b]?=some (qF 1 [row]))(hr:row.length=1):BO jA h 94 (.ptr b 0 0)=some (.agg row):=by
 rw[EH A1P AIG hb rfl (by rw[hr]; exact jF 1),zM,jJ U]
end Go.Proofs.YtiihpnicbekebaaGreatDoor.Cov
namespace Go.Proofs.YtiihpnicbekebaaGreatDoor.Rk
open Sm Bins Cov Go.RowKit
def hit (v:Cvr)(g:Gl):Bool:=decide (PY v g>0)
def hits (l:List Cvr)(i:Nat)(g:Gl):Bool:=match l[i]? with
 | some v=>hit v g
 | none=>false
def row (m:Mo)(v:Cvr):List Bool:=(goals m).map (hit v)
def left (gs:List Gl)(v:Cvr)(k:Nat):List Gl:=(gs.drop k).filter fun g => !hit v g
def SomeB (E:Env)(f:FuncId)(args:List AV)(h:Hp):Prop:=ACalls E f args h fun v H=>(∃b:Bool,v=.bool b)∧H=h
theorem SomeB.of {E:Env}{f:FuncId}{args:List AV}{h:Hp}(hc:ACalls E f args h fun v H=>(∃b:Bool,v=.bool b)∧ext h H):SomeB E f args h :=
 hc.trunc fun v H hR=>by
  obtain⟨⟨b,rfl⟩,x,rfl⟩:=hR;exact⟨1,h,rfl,fun b hb=>.inr (.inl ⟨by rw[qH hb],by rw[qH hb]⟩),⟨b,rfl⟩,rfl⟩
theorem SomeB.use {E:Env}{f:FuncId}{args:List AV}{h:Hp}{K:AV->Hp->Prop}(hc:SomeB E f args h)(hk:∀b:Bool,K (.bool b) h):ACalls E f args h K :=
 ACalls.mono hc fun v H ⟨⟨b,e⟩,e2⟩=>by rw[e,e2]; exact hk b
theorem wt_arg {e:Ex}{k:Nat}(hk:k<e.args.length):wt e.args[k]<wt e:=by
 have h1:=UU (List.getElem_mem hk);have h2:=MH e;omega
theorem ldE' {H:Hp}{b:Nat}{e:Ex}(hb:H[b]?=some (qF 4 [AY e])):BO jA H 23 (.ptr b 0 3)=some (.sl e.m 4 (e.args.map AY)):=by
 rw[BH L6 hb (row:=AY e) rfl,XH]
theorem ldPE {H:Hp}{l:List Pt}{i:Nat}(hi:i<l.length):BO jA H 79 (.fptr 6 (l.map FP) i 1)=some (.agg (AY l[i].ex)):=by
 have h1:=IC l[i];simp only[BO,Sm.rowAt,List.getElem?_map,List.getElem?_eq_getElem hi,Option.map_some,OZ,I8];rw[if_pos (by rw[h1]; omega),uG]
end Go.Proofs.YtiihpnicbekebaaGreatDoor.Rk
namespace Go.Proofs.YtiihpnicbekebaaGreatDoor.Cov
open Sm Bins Go.RowKit
variable {b k:Nat} {H h:Hp} {v:AV} {m:Mo}
theorem outG.setB {α:Type}{f:α->List AV}{ys:List α}(ho:outG k f h ys v H)(hb:b<h.length)(y:ABlk):outG k f h ys v (H.set b y) :=
 ho.keep fun b' hb'=>by
  have:=ho.lt hb';rw[List.getElem?_set_ne U]
theorem outG.keepA {α:Type}{f:α->List AV}{H':Hp}{ys:List α}{u:AV}(ho:outG k f h ys v H)(hk:∀b x,H[b]?=some x->¬isB u b->H'[b]?=some x)(hd:∀b,isB v b->¬isB u b):outG k f h ys v H':=by
 rcases ho with h1|⟨h1,o,h2,rfl,h3⟩
 .exact .inl h1
 .exact .inr ⟨h1,o,h2,rfl,hk _ _ h3 (hd o rfl)⟩
theorem outG.leaf {α:Type}{k:Nat}{f:α->List AV}{h H:Hp}{ys:List α}{v:AV}(ho:outG k f h ys v H):v.leaf=true:=by
 rcases ho with⟨_,rfl⟩|⟨_,o,_,rfl,_⟩<;>rfl
theorem outG.base {α:Type}{f:α->List AV}{h':Hp}{ys:List α}(ho:outG k f h ys v H)(hl:h'.length<=h.length):outG k f h' ys v H:=by
 rcases ho with h1|⟨h1,o,h2,rfl,h3⟩
 .exact .inl h1
 .exact .inr ⟨h1,o,Nat.le_trans hl h2,rfl,h3⟩
def QG (v1 v2:AV):List AV:=[v1,v2,.n 0,.n 0]
structure Em (h H:Hp) (m:Mo) (b2 b3 b4 b5:Nat) (v1 v2 v3:AV):Prop where
 gm:H[h.length]?=some (qF 2 [CZ m])
 g2:H[b2]?=some (qF 4 [J9])
 g3:H[b3]?=some (qF 1 [LH])
 g4:H[b4]?=some (qF 4 [QG v1 v2])
 g5:H[b5]?=some (qF 1 [[v3]])
 o2:h.length<b2
 o3:b2<b3
 o4:b3<b4
 o5:b4<b5
 hx:ext h H
section
variable {h H:Hp} {m:Mo} {b2 b3 b4 b5:Nat} {v1 v2 v3:AV} (E:Em h H m b2 b3 b4 b5 v1 v2 v3)
include E
theorem Em.m0:BO jA H 28 (.ptr h.length 0 0)=some (.sl m.pm 6 (m.pts.map FP)):=by rw[BH eI E.gm (row:=CZ m) rfl,UD]
theorem Em.m1:BO jA H 29 (.ptr h.length 0 1)=some (.sl m.cm 3 (m.crs.map GG)):=by rw[BH gL E.gm (row:=CZ m) rfl,VT]
theorem Em.l4:BO jA H 25 (.ptr b4 0 0)=some v1:=by rw[BH XN E.g4 (row:=QG v1 v2) rfl]; rfl
theorem Em.l4':BO jA H 25 (.ptr b4 0 1)=some v2:=by rw[BH XN E.g4 (row:=QG v1 v2) rfl]; rfl
theorem Em.l5:BO jA H 25 (.ptr b5 0 0)=some v3:=by rw[BH XN E.g5 (row:=[v3]) rfl]; rfl
theorem Em.app (x:Hp):Em h (H++x) m b2 b3 b4 b5 v1 v2 v3:=⟨IK E.gm,IK E.g2,IK E.g3,IK E.g4,IK E.g5,E.o2,E.o3,E.o4,E.o5,E.hx.app _⟩
theorem Em.keep {H':Hp}{u:AV}(hk:∀b x,H[b]?=some x->¬isB u b->H'[b]?=some x)(hu:∀b,isB u b->b5<b)(hx:ext h H->ext h H'):Em h H' m b2 b3 b4 b5 v1 v2 v3:=by
 have o2:=E.o2; have o3:=E.o3; have o4:=E.o4; have o5:=E.o5;exact⟨hk _ _ E.gm (fun e=>by have:=hu _ e; omega),hk _ _ E.g2 (fun e=>by have:=hu _ e; omega),hk _ _ E.g3 (fun e=>by have:=hu _ e; omega),hk _ _ E.g4 (fun e=>by have:=hu _ e; omega),hk _ _ E.g5 (fun e=>by have:=hu _ e; omega),o2,o3,o4,o5,hx E.hx⟩
theorem Em.set4 (w1 w2:AV):Em h (H.set b4 (qF 4 [QG w1 w2])) m b2 b3 b4 b5 w1 w2 v3:=by
 have o2:=E.o2; have o3:=E.o3; have o4:=E.o4; have o5:=E.o5;exact⟨DC E.gm U,DC E.g2 U,DC E.g3 U,CQ E.g4,DC E.g5 U,o2,o3,o4,o5,E.hx.set U _⟩
theorem Em.set5 (w3:AV):Em h (H.set b5 (qF 1 [[w3]])) m b2 b3 b4 b5 v1 v2 w3:=by
 have o2:=E.o2; have o3:=E.o3; have o4:=E.o4; have o5:=E.o5;exact⟨DC E.gm U,DC E.g2 U,DC E.g3 U,DC E.g4 U,CQ E.g5,o2,o3,o4,o5,E.hx.set U _⟩
theorem Em.s4 {o l:Nat}:DX jA H 25 (.ptr b4 0 0) (.own o 0 l)=some (H.set b4 (qF 4 [QG (.own o 0 l) v2])):=IY (row:=QG v1 v2) (AE1 _ _ _) AVY E.g4 (by simp [QG])
theorem Em.s4' {o l:Nat}:DX jA H 25 (.ptr b4 0 1) (.own o 0 l)=some (H.set b4 (qF 4 [QG v1 (.own o 0 l)])):=IY (row:=QG v1 v2) (AE1 _ _ _) AVY E.g4 (by simp [QG])
theorem Em.s5 {o l:Nat}:DX jA H 25 (.ptr b5 0 0) (.own o 0 l)=some (H.set b5 (qF 1 [[.own o 0 l]])):=IY (row:=[v3]) (AE1 _ _ _) AVY E.g5 A8
theorem Em.lt:b5<H.length:=AB E.g5
end
theorem Em.mk' (h:Hp)(m:Mo):Em h (h++[qF 2 [CZ m]]++[qF 4 [J9]]++[qF 1 [LH]]++[qF 4 [J9]]++[qF 1 [LH]]) m (h++[qF 2 [CZ m]]).length (h++[qF 2 [CZ m]]++[qF 4 [J9]]).length
  (h++[qF 2 [CZ m]]++[qF 4 [J9]]++[qF 1 [LH]]).length (h++[qF 2 [CZ m]]++[qF 4 [J9]]++[qF 1 [LH]]++[qF 4 [J9]]).length (.sl .nil 0 []) (.sl .nil 0 []) (.sl .nil 0 []) :=
 ⟨AL (AL (AL (AL (AX _ _)))),AL (AL (AL (AX _ _))),AL (AL (AX _ _)),AL (AX _ _),AX _ _,A8,A8,A8,A8,((((ext.rfl' h).app _).app _).app _).app _ |>.app _⟩
theorem A02 (h:Hp):C9 jA false h 25 1 [(0,.sl .nil 0 [])]=some (.sl .full 1 [LH],h):=AZ
theorem ALF (m:Mo)(i:Nat)(hi:i<m.pts.length):(zPs m).take (i+1)=(zPs m).take i++[zIs m.pts[i].bins.length]:=by
 have hl:i<(zPs m).length:=by unfold zPs; simpa using hi
 rw[jW hl]; simp [zPs]
theorem ALG (m:Mo)(i:Nat)(hi:i<m.crs.length):(zCs m).take (i+1)=(zCs m).take i++[zIs (GN (szs m m.crs[i].pts))]:=by
 have hl:i<(zCs m).length:=by unfold zCs; simpa using hi
 rw[jW hl]; simp [zCs]
theorem AFF (m:Mo):(zPs m).length=m.pts.length:=by simp [zPs]
theorem AFG (m:Mo):(zCs m).length=m.crs.length:=by simp [zCs]
theorem AD9 {E:Env}{f:FuncId}{args:List AV}(hc:ACalls E f args h fun v H=>ext h H∧∃v1 v2 v3,v=.tup [.agg (QG v1 v2),.agg [v3]]∧outG 1 KL h (zPs m) v1 H∧outG 1 KL h (zCs m) v2 H∧outG 1 (fun _:Pt=>LH) h m.pts v3 H)(hX:E.nox=E:=by rfl):
  PCall E f args h (.tup [.agg (encV (lL m)),.agg (QQ ⟨nm (zLs m),zLs m⟩)]):=by
 have hp:PCall E f args h (.tup [.agg (QG (fzG 1 KL (zPs m)) (fzG 1 KL (zCs m))),.agg [fzG 1 (fun _:Pt=>LH) m.pts]]):=by
  refine ACalls.pure 4 hc ?_ hX;rintro v H ⟨he,v1,v2,v3,rfl,o1,o2,o3⟩;refine⟨he,?_⟩;have e1:=NG AZX o1 h.length 0 (jF _);have e2:=NG AZX o2 h.length 0 (jF _);have e3:=NG AWY o3 h.length 0 (jF _);show AV.tup [.agg [FI h.length H 2 v1,FI h.length H 2 v2,.n 0,.n 0],.agg [FI h.length H 2 v3]]=_;rw[e1,e2,e3]; rfl
 refine hp.res (CvR.tup (CvRL.cons (CvR.agg (CvRL.cons ZT (CvRL.cons ZT (CvRL.refl _)))) (CvRL.cons (CvR.agg (CvRL.cons ?_ CvRL.nil)) CvRL.nil)));have h1:CvR (fzG 1 (fun _:Pt=>LH) m.pts) (.sl (nm m.pts) 1 (m.pts.map fun _=>LH)):=ZT;have h2:=CvR.sl (ART (s:=nm m.pts) m.pts);have h3:nm (zLs m)=nm m.pts:=by unfold zLs; cases m.pts<;>rfl
 intro g cv hr;have:=h2 g cv (h1 g cv hr);rw[h3]; exact this
theorem AYL {row:List AV}{v1 v2:AV}(hb:H[b]?=some (qF 4 [row]))(hr:row.length=4)(h1:v1.leaf=true)(h2:v2.leaf=true):DX jA H 46 (.ptr b 0 0) (.agg (QG v1 v2))=some (H.set b (qF 4 [QG v1 v2])):=by
 rw[IY (cs:=QG v1 v2) (PI (by simp [QG,h1,h2]; rfl)) AIH hb (by rw[hr]; exact jF 4)];have:splice row 0 (QG v1 v2)=QG v1 v2:=by unfold splice; rw[qB,jR (by rw[hr]; exact jF 4)]; simp
 rw[this]
theorem AYK {row:List AV}{v3:AV}(hb:H[b]?=some (qF 1 [row]))(hr:row.length=1)(h3:v3.leaf=true):DX jA H 94 (.ptr b 0 0) (.agg [v3])=some (H.set b (qF 1 [[v3]])):=by
 rw[IY (cs:=[v3]) (PI (by simp [h3])) AIG hb (by rw[hr]; exact jF 1)];have:splice row 0 [v3]=[v3]:=by unfold splice; rw[qB,jR (by rw[hr]; exact jF 1)]; simp
 rw[this]
theorem AEA (G:Nat->AV)(m:Mo)(hm:MoOk m)(hg:Good m)(h:Hp):PCall (En G) 75 [.agg (CZ m)] h (.tup [.agg (encV (lL m)),.agg (QQ ⟨nm (zLs m),zLs m⟩)]):=by
 refine AD9 ?_;have hm1:=hm.np;have hm2:=hm.nc;have hnum:=hg.num;refine J7 (H:=hint [24,47] []) (enM G) Tryz.func75 rfl (by kernel_rfl) (by kernel_rfl) (jB (by kernel_rfl)) ?_;show awp _ _ _ _ _ (NU _ [.cell 2 46,.cell 3 94] _);have E:=Em.mk' h m;refine DI @bxM AHV AT2 ?_
 generalize h++[qF 2 [CZ m]]++[qF 4 [J9]]++[qF 1 [LH]]++[qF 4 [J9]]++[qF 1 [LH]]=H0 at E|-
 generalize (h++[qF 2 [CZ m]]++[qF 4 [J9]]++[qF 1 [LH]]++[qF 4 [J9]]).length=b5 at E|-
 generalize (h++[qF 2 [CZ m]]++[qF 4 [J9]]++[qF 1 [LH]]).length=b4 at E|-
 generalize (h++[qF 2 [CZ m]]++[qF 4 [J9]]).length=b3 at E|-
 generalize (h++[qF 2 [CZ m]]).length=b2 at E|-
 have o2:=E.o2; have o3:=E.o3; have o4:=E.o4; have o5:=E.o5;have hlt0:=E.lt;refine AO @E.m0 ?_;refine D9 0 (fun F H=>∃v1 v3,F 1=.ptr h.length 0 0∧F 2=.ptr b2 0 0∧F 3=.ptr b3 0 0∧F 4=.ptr b4 0 0∧F 5=.ptr b5 0 0∧Em h H m b2 b3 b4 b5 v1 (.sl .nil 0 []) v3∧outG 1 KL H0 (zPs m) v1 H∧outG 1 (fun _:Pt=>LH) H0 m.pts v3 H∧(∀b,isB v1 b->¬isB v3 b)∧H0.length<=H.length) (fun _ _=>False) ?_ ?_ (fun _ _ hh=>hh.elim)
 .refine BB (fun n F H=>∃i v1 v3,n+i=m.pts.length∧F 1=.ptr h.length 0 0∧F 2=.ptr b2 0 0∧F 3=.ptr b3 0 0∧F 4=.ptr b4 0 0∧F 5=.ptr b5 0 0∧F 11=.sl m.pm 6 (m.pts.map FP)∧F 12=.n m.pts.length∧F 13=.n (i:Nat)∧Em h H m b2 b3 b4 b5 v1 (.sl .nil 0 []) v3∧outG 1 KL H0 ((zPs m).take i) v1 H∧outG 1 (fun _:Pt=>LH) H0 (m.pts.take i) v3 H∧(∀b,isB v1 b->¬isB v3 b)∧H0.length<=H.length) m.pts.length
   ⟨0,_,_,A8,AC,AC,AC,AC,AC,AC,AC,AC,E,by rw[qB]; exact outG.nil _ _ _ _,by rw[qB]; exact outG.nil _ _ _ _,fun b hb=>hb.elim,jF _⟩ ?_
  clear E;rintro n F H ⟨i,v1,v3,hi,f1,f2,f3,f4,f5,f11,f12,f13,E,ho1,ho3,hdis,hle⟩;refine AQ f12 f13 ?_;refine DU ?_ ?_<;>intro hi'
  .have h64:=(hg.full _ (jH hi')).2
   have hP:=ALF m i hi';simp -implicitDefEqProofs only[vQ,zA,jY,zB,zY,CJ,↓reduceIte,jC,enP,QM,IX,jQ,f11,f13,CG hi',CY gK ZC IC hi',AP3,AL7 _ _ [.str ⟨#[]⟩,.n 0,.n 0,.str ⟨#[]⟩,.sl .nil 0 [],.sl .nil 0 []] rfl];have E1:=E.app [qF 6 [FP m.pts[i]]];obtain⟨v1',H2,hap,ho1',hk1,hl2,hn1,⟨o,l,rfl⟩,hx2⟩:=(ho1.app [qF 6 [FP m.pts[i]]]).app2 ud25 AII zs25 by25 U (by rw[jU,AFF]; omega) MS (zIs m.pts[i].bins.length);rw[<-hP] at ho1';have E2:=E1.keep hk1 (fun b hb=>by have:=ho1.lt hb; omega) (hx2 h U);have E3:=E2.set4 (.own o 0 l) (.sl .nil 0 []);have ho3':=((ho3.app [qF 6 [FP m.pts[i]]]).keepA hk1 (fun b hb h1=>hdis b h1 hb)).setB (b:=b4) U (qF 4 [QG (.own o 0 l) (.sl .nil 0 [])]);have ho1'':=ho1'.setB (b:=b4) U (qF 4 [QG (.own o 0 l) (.sl .nil 0 [])])
   have hdis':∀b,isB (.own o 0 l) b->¬isB v3 b:=fun b hb h3=>by
    have h1:=hn1 b hb;have h2:=ho3.lt h3;simp at h1; omega
   refine DJ AZ ?_;simp -implicitDefEqProofs only[vQ,LC,KD,zA,jY,zB,zY,KX,V6,IL,GH,V7,JX,↓reduceIte,jC,jP,Nat.add_zero,enP,XE,ZN,JV,f4,E1.l4,D6 OB,NI,List.length_map,mkF _ _ (U:m.pts[i].bins.length<=1048576),AU9];refine JR (v:=.own o 0 l) (h:=H2) hap ?_;refine EO @AOL f4 f5 @E2.s4 ?_;have hl3:(H2.set b4 (qF 4 [QG (.own o 0 l) (.sl .nil 0 [])])).length=H.length+2:=by rw[qX,hl2,jS]; rfl
   generalize H2.set b4 (qF 4 [QG (.own o 0 l) (.sl .nil 0 [])])=H3 at E3 ho3' ho1'' hl3|-
   obtain⟨v3',H4,hap3,ho3'',hk3,hl4,hn3,⟨o3',l3,rfl⟩,hx4⟩:=ho3'.app2 ud25 AII zs25 by25 U (by rw[jU]; omega) U m.pts[i];rw[<-jW hi'] at ho3'';have E4:=E3.keep hk3 (fun b hb=>by have:=ho3'.lt hb; omega) (hx4 h U);have E5:=E4.set5 (.own o3' 0 l3);have ho1f:=(ho1''.keepA hk3 hdis').setB (b:=b5) U (qF 1 [[.own o3' 0 l3]]);have ho3f:=ho3''.setB (b:=b5) U (qF 1 [[.own o3' 0 l3]]);refine J3 @E3.l5 @A02 ?_;refine JR (v:=.own o3' 0 l3) (h:=H4) hap3 ?_;refine JL @AOL f5 @E4.s5 f13 (CW i) ?_;refine⟨n-1,U,i+1,.own o 0 l,.own o3' 0 l3,U,f1,f2,f3,f4,trivial,f11,f12,rfl,E5,ho1f,ho3f,fun b hb h3=>?_,?_⟩
   .have h1:=hn1 b hb
    have h2:=hn3 b h3;rw[jS] at h1;simp at h1; omega
   .rw[qX]; omega
  .rw[jJ (by rw[AFF]; omega)] at ho1
   rw[jJ U] at ho3;refine Z ?_;exact⟨v1,v3,f1,f2,f3,f4,f5,E,ho1,ho3,hdis,hle⟩
 .rintro F H ⟨v1,v3,f1,f2,f3,f4,f5,E,ho1,ho3,hdis,hle⟩
  refine AQ f1 @E.m1 ?_;refine D9 2 (fun F H=>∃v2,F 2=.ptr b2 0 0∧F 3=.ptr b3 0 0∧F 4=.ptr b4 0 0∧F 5=.ptr b5 0 0∧Em h H m b2 b3 b4 b5 v1 v2 v3∧outG 1 KL H0 (zPs m) v1 H∧outG 1 KL H0 (zCs m) v2 H∧outG 1 (fun _:Pt=>LH) H0 m.pts v3 H) (fun _ _=>False) ?_ ?_ (fun _ _ hh=>hh.elim)
  .refine BB (fun n F H=>∃i v2,n+i=m.crs.length∧F 1=.ptr h.length 0 0∧F 2=.ptr b2 0 0∧F 3=.ptr b3 0 0∧F 4=.ptr b4 0 0∧F 5=.ptr b5 0 0∧F 33=.sl m.cm 3 (m.crs.map GG)∧F 34=.n m.crs.length∧F 35=.n (i:Nat)∧Em h H m b2 b3 b4 b5 v1 v2 v3∧outG 1 KL H0 (zPs m) v1 H∧outG 1 KL H0 ((zCs m).take i) v2 H∧outG 1 (fun _:Pt=>LH) H0 m.pts v3 H∧(∀b,isB v2 b->¬isB v1 b∧¬isB v3 b)∧H0.length<=H.length) m.crs.length
    ⟨0,_,A8,DW f1,DW f2,DW f3,DW f4,DW f5,AC,AC,AC,E,ho1,by rw[qB]; exact outG.nil _ _ _ _,ho3,fun b hb=>hb.elim,hle⟩ ?_
   clear f1 f2 f3 f4 f5 E ho1 ho3 hle;rintro n F H ⟨i,v2,hi,f1,f2,f3,f4,f5,f33,f34,f35,E,ho1,ho2,ho3,hd2,hle⟩;refine AQ f34 f35 ?_;refine DU ?_ ?_<;>intro hi'
   .have hcg:=hg.crs _ (jH hi')
    have hfs:=hg.full.szs hcg.here;have hsl:=LJ m m.crs[i].pts;have hfour:=hcg.four;have hpr:=hcg.prod;have hC:=ALG m i hi';have E1:=E.app [qF 3 [GG m.crs[i]]];have gc1:=AX H (qF 3 [GG m.crs[i]]);obtain⟨v2',H2,hap,ho2',hk2,hl2,hn2,⟨o,l,rfl⟩,hx2⟩:=(ho2.app [qF 3 [GG m.crs[i]]]).app2 ud25 AII zs25 by25 U (by rw[jU,AFG]; omega) MS (zIs (GN (szs m m.crs[i].pts)));rw[<-hC] at ho2';have E2:=E1.keep hk2 (fun b hb=>by have:=ho2.lt hb; omega) (hx2 h U);have E3:=E2.set4 v1 (.own o 0 l);have ho1':=((ho1.app [qF 3 [GG m.crs[i]]]).keepA hk2 (fun b hb h2=>(hd2 b h2).1 hb)).setB (b:=b4) U (qF 4 [QG v1 (.own o 0 l)]);have ho3':=((ho3.app [qF 3 [GG m.crs[i]]]).keepA hk2 (fun b hb h2=>(hd2 b h2).2 hb)).setB (b:=b4) U (qF 4 [QG v1 (.own o 0 l)]);have ho2'':=ho2'.setB (b:=b4) U (qF 4 [QG v1 (.own o 0 l)]);simp -implicitDefEqProofs only[vQ,zA,jY,zB,zY,CJ,↓reduceIte,jC,enP,WV,IX,jQ,f33,f35,CG hi',CY uT iL LY hi',AXV,AV0 _ _ [.str ⟨#[]⟩,.sl .nil 0 [],.sl .nil 0 []] rfl];refine DJ AZ ?_;refine MR @V6 f1 f4 @E1.l4' (ldM E1.gm) (ldC gc1) ?_;refine⟨_,ZG G m _ _ hcg.here U,?_⟩
    try refine Z ?_
    refine⟨_,U9 G _ _ _ (fun n hn=>(hfs n hn).2) U,?_⟩
    try simp -implicitDefEqProofs only[vQ,LC,KD,zA,jY,zB,zY,Bool.or_true,KX,IL,GH,JX,↓reduceIte,jC,jP,enP,mkF _ _ (U:GN (szs m m.crs[i].pts)<=1048576),AU9]
    refine JR (v:=.own o 0 l) (h:=H2) hap ?_;simp -implicitDefEqProofs only[vQ,zA,jY,zB,zY,PG,P8,CJ,↓reduceIte,jC,jP,enP,XD,IX,jQ,f4,E2.s4',f35,CW i];refine⟨n-1,by omega,i+1,.own o 0 l,by omega,f1,f2,f3,trivial,f5,f33,f34,rfl,E3,ho1',ho2'',ho3',fun b hb=>⟨fun h1=>?_,fun h3=>?_⟩,?_⟩
    .have h0:=hn2 b hb
     have h2:=ho1.lt h1;rw[jS] at h0;simp at h0; omega
    .have h0:=hn2 b hb
     have h2:=ho3.lt h3;rw[jS] at h0;simp at h0; omega
    .rw[qX,hl2,jS]; simp; omega
   .rw[jJ (by rw[AFG]; omega)] at ho2
    refine Z ?_;exact⟨v2,f2,f3,f4,f5,E,ho1,ho2,ho3⟩
  .rintro F' H' ⟨v2,g2,g3,g4,g5,E',q1,q2,q3⟩
   refine Z ?_;have p2:=E'.o2; have p3:=E'.o3; have p4:=E'.o4; have p5:=E'.o5;refine rE [(5,2)] AZ ?_ ?_
   .refine MR g2 g5 @rQ @ACA @xA @and_true ?_
    omega
   simp -implicitDefEqProofs only[vQ,zA,jY,zB,zY,PG,P8,↓reduceIte,jC,jP,enP,jQ,g2,g3,g4,g5,sV E'.g4 rfl,sU E'.g5 rfl,AYL E'.g2 rfl q1.leaf q2.leaf,AYK (DC E'.g3 (U:b3≠b2)) rfl q3.leaf];rw[AW8 (ba:=b2) (bb:=b3) (DW g2) (DW g3) (sV (DC (CQ E'.g2) (U:b2≠b3)) rfl) (sU (CQ (DC E'.g3 (U:b3≠b2))) rfl)];have hs1:∀ {α:Type} {f:α->List AV} {ys:List α} {v:AV},outG 1 f H0 ys v H'->outG 1 f h ys v ((H'.set b2 (qF 4 [QG v1 v2])).set b3 (qF 1 [[v3]])):=fun q=>((q.setB (b:=b2) U _).setB (b:=b3) U _).base U
   exact⟨(E'.hx.set U _).set U _,v1,v2,v3,rfl,hs1 q1,hs1 q2,hs1 q3⟩
theorem UC {E:Env}{f:FuncId}{args:List AV}{r:AV}(d:Nat)(hr:∀n H,FI n H d r=r)(hc:ACalls E f args h fun v H=>v=r∧ext h H)(hX:E.nox=E:=by rfl):PCall E f args h r :=
 ACalls.pure d hc (fun v H ⟨e,he⟩=>⟨he,by rw[e]; exact hr _ _⟩) hX
def emV (m:Mo):Cvr:=if FT m=0 then lL m else zV
def emT (m:Mo):Tk:=if FT m=0 then ⟨nm (zLs m),zLs m⟩ else zT
structure Ee (h H:Hp) (m:Mo) (b2 b3:Nat):Prop where
 gm:H[h.length]?=some (qF 2 [CZ m])
 g2:H[b2]?=some (qF 4 [J9])
 g3:H[b3]?=some (qF 1 [LH])
 o2:h.length<b2
 o3:b2<b3
 hx:ext h H
theorem Ee.mk' (h:Hp)(m:Mo):Ee h (h++[qF 2 [CZ m]]++[qF 4 [J9]]++[qF 1 [LH]]) m (h++[qF 2 [CZ m]]).length (h++[qF 2 [CZ m]]++[qF 4 [J9]]).length :=
 ⟨AL (AL (AX _ _)),AL (AX _ _),AX _ _,A8,A8,(((ext.rfl' h).app _).app _).app _⟩
theorem Ee.lt {b2 b3:Nat}(E:Ee h H m b2 b3):b3<H.length:=AB E.g3
theorem Ee.m0 {b2 b3:Nat}(E:Ee h H m b2 b3):BO jA H 28 (.ptr h.length 0 0)=some (.sl m.pm 6 (m.pts.map FP)):=by rw[BH eI E.gm (row:=CZ m) rfl,UD]
theorem A25 (H0:Hp)(c:Cvr)(t:Tk):
  DX jA (H0++[qF 4 [J9]]++[qF 1 [LH]]) 46 (.ptr H0.length 0 0) (.agg (encV c))=some ((H0++[qF 4 [J9]]++[qF 1 [LH]]).set H0.length (qF 4 [encV c])) ∧
  DX jA ((H0++[qF 4 [J9]]++[qF 1 [LH]]).set H0.length (qF 4 [encV c])) 94 (.ptr (H0++[qF 4 [J9]]).length 0 0) (.agg (QQ t))=some (((H0++[qF 4 [J9]]++[qF 1 [LH]]).set H0.length (qF 4 [encV c])).set (H0++[qF 4 [J9]]).length (qF 1 [QQ t])) ∧
  (((H0++[qF 4 [J9]]++[qF 1 [LH]]).set H0.length (qF 4 [encV c])).set (H0++[qF 4 [J9]]).length (qF 1 [QQ t]))[H0.length]?=some (qF 4 [encV c]) ∧
  (((H0++[qF 4 [J9]]++[qF 1 [LH]]).set H0.length (qF 4 [encV c])).set (H0++[qF 4 [J9]]).length (qF 1 [QQ t]))[(H0++[qF 4 [J9]]).length]?=some (qF 1 [QQ t]) ∧
  ext H0 (((H0++[qF 4 [J9]]++[qF 1 [LH]]).set H0.length (qF 4 [encV c])).set (H0++[qF 4 [J9]]).length (qF 1 [QQ t])) :=
 ⟨stV (AL (AX _ _)) rfl,stT (DC (AX _ _) A8) rfl,DC (CQ (AL (AX _ _))) A8,CQ (DC (AX _ _) A8),((((ext.rfl' H0).app _).app _).set (jF _) _).set A8 _⟩
theorem EJ {x:ABlk}(he:ext h H)(hb:h[b]?=some x):H[b]?=some x:=by
 obtain⟨y,rfl⟩:=he;exact IK hb
theorem AW6 (e:Int):CvR (.tup [.agg J9,.agg LH,.n e]) (.tup [.agg (encV zV),.agg (QQ zT),.n e]):=CvR.tup (CvRL.cons AX1 (CvRL.cons AX2 (CvRL.refl _)))
theorem AFB (G:Nat->AV)(hG:GOk G)(m:Mo)(hm:MoOk m)(h:Hp):PCall (En G) 39 [.agg (CZ m)] h (.tup [.agg (encV (emV m)),.agg (QQ (emT m)),.n (FT m)]):=by
 by_cases h0:FT m=0
 .have hb:(FT m==0)=true:=BL h0
  unfold emV emT;rw[if_pos h0,if_pos h0];have hg:=RI h0;refine UC 3 (fun n H=>rfl) ?_;refine acL Tryz.func39 [.cell 2 46,.cell 3 94,.tmp 4] ?_;have E:=Ee.mk' h m;refine DI @bxM AHV AT2 ?_
  generalize h++[qF 2 [CZ m]]++[qF 4 [J9]]++[qF 1 [LH]]=H0 at E|-
  generalize (h++[qF 2 [CZ m]]++[qF 4 [J9]]).length=b3 at E|-
  generalize (h++[qF 2 [CZ m]]).length=b2 at E|-
  have o2:=E.o2; have o3:=E.o3; have hlt:=E.lt;refine AO (ldM E.gm) ?_;refine(PS G hG m hm _).use ?_;simp -implicitDefEqProofs only[vQ,CJ,List.map_cons,List.map_nil,List.append_nil,↓reduceIte,jC,Bool.not_true,enP,bne,hb,ldM E.gm];refine(AEA G m hm hg _).use ?_;obtain⟨s1,s2,g6,g7,hx5⟩:=A25 H0 (lL m) ⟨nm (zLs m),zLs m⟩;have g2:=EJ hx5 E.g2;have g3:=EJ hx5 E.g3;have hx:=E.hx.trans hx5;have h7:b2<(H0++[qF 4 [J9]]).length:=by simp; omega
  refine EO AHV AT2 s1 s2 ?_
  generalize ((H0++[qF 4 [J9]]++[qF 1 [LH]]).set H0.length (qF 4 [encV (lL m)])).set (H0++[qF 4 [J9]]).length (qF 1 [QQ ⟨nm (zLs m),zLs m⟩])=H5 at g6 g7 g2 g3 hx|-
  generalize (H0++[qF 4 [J9]]).length=b7 at g7 h7|-
  refine rE [(7,2)] AZ ?_ ?_
  .refine EO @rQ @ACA @xA @and_true ?_
   omega
  simp -implicitDefEqProofs only[vQ,PG,LQ,P8,↓reduceIte,jC,jP,enP,jQ,ldV g6,ldT g7,stV g2 rfl,stT (DC g3 (U:b3≠b2)) rfl];rw[AHF (ba:=b2) (bb:=b3) AC AC (ldV (DC (CQ g2) (U:b2≠b3))) (ldT (CQ (DC g3 (U:b3≠b2))))];exact⟨DW h0,(hx.set U _).set U _⟩
 .have hb:(FT m==0)=false:=BL h0
  unfold emV emT;rw[if_neg h0,if_neg h0];refine PCall.res ?_ (AW6 _);refine UC 3 (fun n H=>rfl) ?_;refine acL Tryz.func39 [.cell 2 46,.cell 3 94,.tmp 4] ?_;have E:=Ee.mk' h m;refine DI @bxM AHV AT2 ?_
  generalize h++[qF 2 [CZ m]]++[qF 4 [J9]]++[qF 1 [LH]]=H0 at E|-
  generalize (h++[qF 2 [CZ m]]++[qF 4 [J9]]).length=b3 at E|-
  generalize (h++[qF 2 [CZ m]]).length=b2 at E|-
  have o2:=E.o2; have o3:=E.o3; have hlt:=E.lt;refine AO (ldM E.gm) ?_;refine(PS G hG m hm _).use ?_;simp -implicitDefEqProofs only[vQ,LC,N7,NK,CJ,P9,↓reduceIte,jC,enP,jQ,bne,hb,A1B,A09,stZ E.g2 rfl,AYI (DC E.g3 (U:b3≠b2)) rfl];rw[AHF (ba:=b2) (bb:=b3) AC AC (sV (DC (CQ E.g2) (U:b2≠b3)) rfl) (sU (CQ (DC E.g3 (U:b3≠b2))) rfl)];exact⟨AC,(E.hx.set U _).set U _⟩
end Go.Proofs.YtiihpnicbekebaaGreatDoor.Cov
namespace Go.Proofs.YtiihpnicbekebaaGreatDoor.Bins
open Sm
instance:Inhabited Rs:=⟨⟨.nil,[]⟩⟩
def setAt (b:Bin)(i:Nat):List Rng:=((sets b)[i]?.getD default).l
def AYA (last:List Int)(n:Nat)(v:Int)(i:Nat):Int:=if i+1<n then last[last.length+1-n+i]?.getD 0 else v
def A26 (b:Bin)(last:List Int)(v:Int)(k:Nat):Bool:=(List.range k).all fun i=>inside (setAt b i) (AYA last (sets b).length v i)
def hit (b:Bin)(last:List Int)(v:Int):Bool:=decide (GR b=0)&&decide ((sets b).length<=last.length+1)&&A26 b last v (sets b).length
end Go.Proofs.YtiihpnicbekebaaGreatDoor.Bins
namespace Go.Proofs.YtiihpnicbekebaaGreatDoor.Wd
open Sm Bins Cov Go.RowKit
variable {a:Nat} {n:Int} (G:Nat->AV )
def wW (z:Int):Nat:=(z%65536).toNat
theorem AFM (z:Int):wW z<65536:=by unfold wW; omega
theorem U0 (h:a<65536):wW (a:Int)=a:=by unfold wW; omega
def ABW (a i:Nat):Nat:=a/2^i%2
def MG (a:Nat):Nat->Nat
 | 0=>0
 | k+1=>MG a k+ABW a k
def YY (a:Nat):Nat:=MG a 16
def wT (a:Nat)(n:Int):Nat:=if n<0∨n≥16 then 0 else a*2^n.toNat%65536
def wN (a:Nat)(n:Int):Nat:=if n<0∨n≥16 then 0 else a/2^n.toNat
theorem ATS (a i:Nat):ABW a i<2:=qW _ U
theorem RQ (a:Nat):∀k,MG a k<=k
 | 0=>Nat.le_refl 0
 | k+1=>by have:=RQ a k; have:=ATS a k; unfold MG; omega
theorem TI (a i:Nat)(hi:i<8):ABW (a%256) i=ABW a i:=by
 unfold ABW;have:i=0∨i=1∨i=2∨i=3∨i=4∨i=5∨i=6∨i=7:=U;rcases this with rfl|rfl|rfl|rfl|rfl|rfl|rfl|rfl<;>simp only[Nat.reducePow]<;>omega
theorem APM (a i:Nat):ABW (a/256) i=ABW a (8+i):=by
 unfold ABW;rw[Nat.div_div_eq_div_mul,Nat.pow_add]
theorem AMW (a:Nat):YY a=MG (a/256) 8+MG (a%256) 8:=by
 unfold YY;simp only[MG,APM,TI a 0 U,TI a 1 U,TI a 2 U,TI a 3 U,TI a 4 U,TI a 5 U,TI a 6 U,TI a 7 U,Nat.reduceAdd,Nat.add_zero];omega
theorem ALP (h0:0<=n)(h1:n<65536):IntKind.u16.wrap n=n:=by
 have e:IntKind.u16.wrap n=n%65536:=by simp [IntKind.wrap,IntKind.bits,IntKind.signed]
 rw[e]; omega
theorem TZ (n:Int):IntKind.u16.wrap n=n%65536:=by simp [IntKind.wrap,IntKind.bits,IntKind.signed]
theorem AT1 (z:Int):H9 jA 3 .and (.n z) (.n 65535)=some (.n ((wW z:Nat):Int)):=by
 have e:H9 jA 3 .and (.n z) (.n 65535)=some (.n (IntKind.i64.wrap ((BitVec.ofInt 64 z &&& BitVec.ofInt 64 65535).toNat:Int))):=rfl;rw[e,BitVec.toNat_and];have h1:(BitVec.ofInt 64 65535).toNat=2^16-1:=by decide
 rw[h1,Nat.and_two_pow_sub_one_eq_mod,BitVec.toNat_ofInt]
 have h2:((z%((2^64:Nat):Int)).toNat%2^16)=wW z:=by
  unfold wW;simp only[Nat.reducePow];omega
 rw[h2,OC (by have:=AFM z; omega)]
theorem AKV (a:Nat)(h:a<65536):(BitVec.ofInt 64 (a:Int)).toNat=a:=by
 rw[BitVec.ofInt_natCast,BitVec.toNat_ofNat];exact Nat.mod_eq_of_lt U
theorem A1G (a b:Nat)(ha:a<65536)(hb:b<65536):H9 jA 3 .and (.n (a:Nat)) (.n (b:Nat))=some (.n ((a &&& b:Nat):Int)):=by
 have e:H9 jA 3 .and (.n (a:Nat)) (.n (b:Nat))=some (.n (IntKind.i64.wrap ((BitVec.ofInt 64 (a:Int) &&& BitVec.ofInt 64 (b:Int)).toNat:Int))):=rfl;have hx:a &&& b<2^16:=Nat.and_lt_two_pow _ U;rw[e,BitVec.toNat_and,AKV a ha,AKV b hb,OC U]
theorem A21 (a b:Nat)(ha:a<65536)(hb:b<65536):H9 jA 3 .or (.n (a:Nat)) (.n (b:Nat))=some (.n ((a ||| b:Nat):Int)):=by
 have e:H9 jA 3 .or (.n (a:Nat)) (.n (b:Nat))=some (.n (IntKind.i64.wrap ((BitVec.ofInt 64 (a:Int) ||| BitVec.ofInt 64 (b:Int)).toNat:Int))):=rfl
 have hx:a ||| b<2^16:=Nat.or_lt_two_pow U U
 rw[e,BitVec.toNat_or,AKV a ha,AKV b hb,OC U]
theorem AX5 (a b:Nat)(ha:a<65536)(hb:b<65536):H9 jA 3 .xor (.n (a:Nat)) (.n (b:Nat))=some (.n ((a ^^^ b:Nat):Int)):=by
 have e:H9 jA 3 .xor (.n (a:Nat)) (.n (b:Nat))=some (.n (IntKind.i64.wrap ((BitVec.ofInt 64 (a:Int) ^^^ BitVec.ofInt 64 (b:Int)).toNat:Int))):=rfl;have hx:a ^^^ b<2^16:=Nat.xor_lt_two_pow U U;rw[e,BitVec.toNat_xor,AKV a ha,AKV b hb,OC U]
theorem dX (E:Env)(fid:FuncId)(a:AV)(l args caps:List AV)(h:Hp)(K:AV->Hp->Prop):ABS E (.fn (.func fid) (a::l) caps) args h K=ACalls E fid ((a::l)++(args++caps)) h K:=rfl
theorem QC (z:Int)(h:Hp):PCall (En G) 340 [.n z] h (.int .u16 ((wW z:Nat):Int)):=by
 have:=AFM z;refine acT Tryz.func340 2 ?_;refine DI @AS7 @AT1 (ALP (n:=((wW z:Nat):Int)) U U) ?_;exact G8
theorem U2 (a:Nat)(ha:a<65536)(h:Hp):PCall (En G) 341 [.int .u16 (a:Nat)] h (.n (a:Nat)):=by
 refine acT Tryz.func341 2 ?_;refine AQ @AS8 (OC (n:=a) U) ?_;exact G8
theorem AH8 (z:Int)(h:Hp):PCall (En G) 316 [.n z] h (.n ((wW z:Nat):Int)):=by
 refine acT Tryz.func316 2 ?_;refine Z ?_;refine(QC G z h).uu ?_;refine(U2 G _ (AFM z) h).uu ?_;exact G8
theorem iI (k:FuncId)(a b r:Nat)(hb:b<65536)(hr:r<65536)(h:Hp)(hc:PCall (En G) k [.int .u16 (a:Nat),.int .u16 (b:Nat)] h (.int .u16 (r:Nat))):
  PCall (En G) 342 [.fn (.func k) [.int .u16 (a:Nat)] [],.n (b:Nat)] h (.n (r:Nat)):=by
 have ho:=QC G (b:Nat) h;rw[U0 hb] at ho;refine acT Tryz.func342 4 ?_;refine Z ?_;refine ho.use ?_;refine AO @dX ?_;refine hc.uu ?_;refine(U2 G r hr h).uu ?_;exact G8
theorem yL (k:FuncId)(a r:Nat)(hr:r<65536)(h:Hp)(hc:PCall (En G) k [.int .u16 (a:Nat)] h (.int .u16 (r:Nat))):
  PCall (En G) 383 [.fn (.func k) [.int .u16 (a:Nat)] []] h (.n (r:Nat)):=by
 refine acT Tryz.func383 2 ?_;refine AO @dX ?_;refine hc.uu ?_;refine(U2 G r hr h).uu ?_;exact G8
theorem AVL (a b:Nat)(ha:a<65536)(hb:b<65536)(h:Hp):PCall (En G) 317 [.n (a:Nat),.n (b:Nat)] h (.n (((a+b)%65536:Nat):Int)):=by
 have hc:PCall (En G) 343 [.int .u16 (a:Nat),.int .u16 (b:Nat)] h (.int .u16 (((a+b)%65536:Nat):Int)):=by
  have e:IntKind.u16.wrap ((a:Int)+(b:Int))=(((a+b)%65536:Nat):Int):=by rw[TZ]; omega
  refine acT Tryz.func343 4 ?_;refine AO e ?_;exact G8
 have ho:=QC G (a:Nat) h;rw[U0 ha] at ho;refine acT Tryz.func317 4 ?_;refine Z ?_;refine ho.uu ?_;refine(iI G 343 a b _ hb (qW _ U) h hc).uu ?_;exact G8
theorem AYH (a b:Nat)(ha:a<65536)(hb:b<65536)(h:Hp):PCall (En G) 348 [.n (a:Nat),.n (b:Nat)] h (.n (((a+65536-b)%65536:Nat):Int)):=by
 have hc:PCall (En G) 387 [.int .u16 (a:Nat),.int .u16 (b:Nat)] h (.int .u16 (((a+65536-b)%65536:Nat):Int)):=by
  have e:IntKind.u16.wrap ((a:Int)-(b:Int))=(((a+65536-b)%65536:Nat):Int):=by rw[TZ]; omega
  refine acT Tryz.func387 4 ?_;refine AO e ?_;exact G8
 have ho:=QC G (a:Nat) h;rw[U0 ha] at ho;refine acT Tryz.func348 4 ?_;refine Z ?_;refine ho.uu ?_;refine(iI G 387 a b _ hb (qW _ U) h hc).uu ?_;exact G8
theorem AY6 (a b:Nat)(ha:a<65536)(hb:b<65536)(h:Hp):PCall (En G) 349 [.n (a:Nat),.n (b:Nat)] h (.n ((a*b%65536:Nat):Int)):=by
 have hc:PCall (En G) 388 [.int .u16 (a:Nat),.int .u16 (b:Nat)] h (.int .u16 ((a*b%65536:Nat):Int)):=by
  have e:IntKind.u16.wrap ((a:Int)*(b:Int))=((a*b%65536:Nat):Int):=by rw[TZ]; rw[<-Int.natCast_mul]; rfl
  refine acT Tryz.func388 4 ?_;refine AO e ?_;exact G8
 have ho:=QC G (a:Nat) h;rw[U0 ha] at ho;refine acT Tryz.func349 4 ?_;refine Z ?_;refine ho.uu ?_;refine(iI G 388 a b _ hb (qW _ U) h hc).uu ?_;exact G8
theorem AZT (a:Nat)(ha:a<65536)(h:Hp):PCall (En G) 345 [.n (a:Nat)] h (.n ((65535-a:Nat):Int)):=by
 have hu:aUn .xor (.int .u16 (a:Nat))=some (.int .u16 ((65535-a:Nat):Int)):=by
  have e:aUn .xor (.int .u16 (a:Nat))=some (.int .u16 (IntKind.u16.wrap ((BitVec.ofInt 16 65535 ^^^ BitVec.ofInt 16 (a:Int)).toNat:Int))):=rfl;have h1:BitVec.ofInt 16 65535=BitVec.allOnes 16:=by decide
  have h2:(BitVec.ofInt 16 (a:Int)).toNat=a:=by
   rw[BitVec.ofInt_natCast,BitVec.toNat_ofNat];exact Nat.mod_eq_of_lt U
  rw[e,h1,BitVec.allOnes_xor,BitVec.toNat_not,h2,ALP U (by simp only[Nat.reducePow]; omega)]
 have hc:PCall (En G) 384 [.int .u16 (a:Nat)] h (.int .u16 ((65535-a:Nat):Int)):=by
  refine acT Tryz.func384 2 ?_;refine AO hu ?_;exact G8
 have ho:=QC G (a:Nat) h;rw[U0 ha] at ho;refine acT Tryz.func345 2 ?_;refine Z ?_;refine ho.uu ?_;refine(yL G 384 a _ U h hc).uu ?_;exact G8
theorem AY5 (a:Nat)(ha:a<65536)(h:Hp):PCall (En G) 346 [.n (a:Nat)] h (.n (((65536-a)%65536:Nat):Int)):=by
 have hc:PCall (En G) 385 [.int .u16 (a:Nat)] h (.int .u16 (((65536-a)%65536:Nat):Int)):=by
  have e:IntKind.u16.wrap (0-(a:Int))=(((65536-a)%65536:Nat):Int):=by rw[TZ]; omega
  refine acT Tryz.func385 2 ?_;refine AQ @ALU e ?_;exact G8
 have ho:=QC G (a:Nat) h;rw[U0 ha] at ho;refine acT Tryz.func346 2 ?_;refine Z ?_;refine ho.uu ?_;refine(yL G 385 a _ (qW _ U) h hc).uu ?_;exact G8
theorem iO (k:FuncId)(a r:Nat)(n:Int)(hr:r<65536)(h:Hp)(hc:¬(n<0∨n≥16)->PCall (En G) k [.int .u16 (a:Nat),.n n] h (.int .u16 (r:Nat)))(h0:n<0∨n≥16->r=0):
  PCall (En G) 389 [.fn (.func k) [.int .u16 (a:Nat)] [],.n n] h (.n (r:Nat)):=by
 refine acT Tryz.func389 4 ?_;refine Z ?_;cases h1:decide (n<0)
 .have h1':¬n<0:=BL h1
  cases h2:decide (n≥16)
  .have h2':¬n≥16:=BL h2
   refine AQ h2 @dX ?_;refine(hc U).uu ?_;refine(U2 G r hr h).uu ?_;exact G8
  .have h2':n≥16:=BL h2
   refine AO h2 ?_;exact⟨by rw[h0 (.inr h2')]; rfl,trivial⟩
 .have h1':n<0:=BL h1
  refine Z ?_;exact⟨by rw[h0 (.inl h1')]; rfl,trivial⟩
theorem AFX:wT a n<65536:=by
 unfold wT;split
 .omega
 .exact qW _ U
theorem AFW (ha:a<65536):wN a n<65536:=by
 unfold wN;split
 .omega
 .exact Nat.lt_of_le_of_lt (Nat.div_le_self _ _) ha
theorem shl_w (a:Nat)(n:Int)(ha:a<65536)(h:Hp):PCall (En G) 350 [.n (a:Nat),.n n] h (.n (wT a n:Nat)):=by
 have hc:¬(n<0∨n≥16)->PCall (En G) 390 [.int .u16 (a:Nat),.n n] h (.int .u16 (wT a n:Nat)):=fun hn=>by
  have hb:H9 jA 348 .shl (.int .u16 (a:Nat)) (.n n)=some (.int .u16 (wT a n:Nat)):=by
   have e:H9 jA 348 .shl (.int .u16 (a:Nat)) (.n n)=if n<0 then none else some (.int .u16 (IntKind.u16.wrap ((a:Int)*2^(min n.toNat 16)))):=rfl
   have h1:min n.toNat 16=n.toNat:=U;rw[e,if_neg U,h1,TZ];unfold wT;rw[if_neg hn,Int.natCast_emod,Int.natCast_mul,Int.natCast_pow];rfl
  refine acT Tryz.func390 4 ?_;refine AO hb ?_;exact G8
 have ho:=QC G (a:Nat) h;rw[U0 ha] at ho;refine acT Tryz.func350 4 ?_;refine Z ?_;refine ho.uu ?_;refine(iO G 390 a _ n AFX h hc (fun hh=>by unfold wT; rw[if_pos hh])).uu ?_;exact G8
theorem AYQ (a:Nat)(n:Int)(ha:a<65536)(h:Hp):PCall (En G) 351 [.n (a:Nat),.n n] h (.n (wN a n:Nat)):=by
 have hc:¬(n<0∨n≥16)->PCall (En G) 391 [.int .u16 (a:Nat),.n n] h (.int .u16 (wN a n:Nat)):=fun hn=>by
  have hb:H9 jA 348 .shr (.int .u16 (a:Nat)) (.n n)=some (.int .u16 (wN a n:Nat)):=by
   have e:H9 jA 348 .shr (.int .u16 (a:Nat)) (.n n)=if n<0 then none else some (.int .u16 ((a:Int).fdiv (2^(min n.toNat 16)))):=rfl
   have h1:min n.toNat 16=n.toNat:=U;rw[e,if_neg U,h1];unfold wN;rw[if_neg hn,Int.fdiv_eq_ediv_of_nonneg _ (by exact Int.le_of_lt (Int.pow_pos DK)),Int.natCast_ediv,Int.natCast_pow];rfl
  refine acT Tryz.func391 4 ?_;refine AO hb ?_;exact G8
 have ho:=QC G (a:Nat) h;rw[U0 ha] at ho;refine acT Tryz.func351 4 ?_;refine Z ?_;refine ho.uu ?_;refine(iO G 391 a _ n (AFW ha) h hc (fun hh=>by unfold wN; rw[if_pos hh])).uu ?_;exact G8
def AFS (fn:Func):ByteArray:=match fn.body with
 | some (.seq _ (.seq (.region _ ops _) _))=>match ops[2]? with
   | some o=>match o.op with
     | .index _ (.const (.string s)) _=>s
     | _=>⟨#[]⟩
   | none=>⟨#[]⟩
 | _=>⟨#[]⟩
theorem AQX:(List.range 256).all (fun y=>(AFS Tryz.f386)[y]? == some (UInt8.ofNat (MG y 8)))=true:=AZ
theorem ALX {y:Nat}(hy:y<256)(h:Hp):ofO h (O1 jA 9 (.str (AFS Tryz.f386)) (.int .u16 (y:Nat)))=some (.int .u8 (MG y 8:Nat),h):=by
 have h1:=List.all_eq_true.1 AQX y (BL hy);have h2:(AFS Tryz.f386)[y]?=some (UInt8.ofNat (MG y 8)):=BL h1;have hle:=RQ y 8;have hu:Tryz.prog.underlying 9=some .string:=AZ
 have h3:O1 jA 9 (.str (AFS Tryz.f386)) (.int .u16 (y:Nat))=some (.int .u8 (MG y 8:Nat)):=by
  unfold O1;simp only[hu,Int.toNat_natCast,h2];rw[if_pos U];simp;omega
 rw[h3]; rfl
theorem AJG (a:Nat)(ha:a<65536)(h:Hp):PCall (En G) 347 [.n (a:Nat)] h (.n (YY a:Nat)):=by
 have hs:H9 jA 347 .shr (.int .u16 (a:Nat)) (.int .u64 8)=some (.int .u16 ((a/256:Nat):Int)):=by
  have e:H9 jA 347 .shr (.int .u16 (a:Nat)) (.int .u64 8)=some (.int .u16 ((a:Int).fdiv (2^8))):=rfl;rw[e,Int.fdiv_eq_ediv_of_nonneg _ DK];rfl
 have hl:H9 jA 347 .and (.int .u16 (a:Nat)) (.int .u16 255)=some (.int .u16 ((a%256:Nat):Int)):=by
  have e:H9 jA 347 .and (.int .u16 (a:Nat)) (.int .u16 255)=some (.int .u16 (IntKind.u16.wrap ((BitVec.ofInt 16 (a:Int) &&& BitVec.ofInt 16 255).toNat:Int))):=rfl;have h1:(BitVec.ofInt 16 255).toNat=2^8-1:=by decide
  have h2:(BitVec.ofInt 16 (a:Int)).toNat=a:=by
   rw[BitVec.ofInt_natCast,BitVec.toNat_ofNat];exact Nat.mod_eq_of_lt U
  rw[e,BitVec.toNat_and,h1,Nat.and_two_pow_sub_one_eq_mod,h2,ALP U (by simp only[Nat.reducePow]; omega)]
 have l1:=RQ (a/256) 8;have l2:=RQ (a%256) 8
 have hadd:H9 jA 5 .add (.int .u8 (MG (a/256) 8:Nat)) (.int .u8 (MG (a%256) 8:Nat))=some (.int .u8 (YY a:Nat)):=by
  have e:H9 jA 5 .add (.int .u8 (MG (a/256) 8:Nat)) (.int .u8 (MG (a%256) 8:Nat))=some (.int .u8 (IntKind.u8.wrap ((MG (a/256) 8:Int)+(MG (a%256) 8:Int)))):=rfl;have e2:∀n:Int,IntKind.u8.wrap n=n%256:=fun n=>by simp [IntKind.wrap,IntKind.bits,IntKind.signed]
  have e3:=AMW a;rw[e,e2];congr 2;omega
 have h64:IntKind.i64.wrap ((YY a:Nat):Int)=((YY a:Nat):Int):=OC (by have:=RQ a 16; unfold YY; omega)
 have hc:PCall (En G) 386 [.int .u16 (a:Nat)] h (.n (YY a:Nat)):=by
  refine acT Tryz.func386 2 ?_;refine Z ?_;refine DJ AZ ?_;refine DI @rT hs hl ?_;refine JR (v:=.int .u8 (MG (a/256) 8:Nat)) (h:=h) (ALX U h) ?_;refine DI @rT hs hl ?_;refine JR (v:=.int .u8 (MG (a%256) 8:Nat)) (h:=h) (ALX U h) ?_;refine EO @ALI @AO5 @hadd h64 ?_;exact G8
 have ho:=QC G (a:Nat) h;rw[U0 ha] at ho;refine acT Tryz.func347 2 ?_;refine Z ?_;refine ho.uu ?_;refine hc.uu ?_;exact G8
end Go.Proofs.YtiihpnicbekebaaGreatDoor.Wd
namespace Go.Proofs.YtiihpnicbekebaaGreatDoor.Xe
open Sm Bins Cov Wd Go.RowKit
variable (G:Nat->AV )
def tr (b:Bool):Nat:=if b then 1 else 0
def sgW (op:Int)(a:Nat):Nat:=if op=4 then tr (a==0) else if op=5 then 65535-a else if op=6 then (65536-a)%65536 else YY a
def dbW (op:Int)(a b:Nat):Nat :=
 if op=7 then (a+b)%65536 else if op=8 then (a+65536-b)%65536 else if op=9 then a*b%65536 else if op=10 then a &&& b else if op=11 then a ||| b else if op=12 then a ^^^ b
 else if op=13 then wT a (b:Nat) else if op=14 then wN a (b:Nat) else if op=15 then tr (a==b) else if op=16 then tr (!(a==b)) else if op=17 then tr (decide (a<b)) else if op=18 then tr (decide (a<=b))
 else if op=19 then tr (!(a==0) && !(b==0)) else if op=20 then tr (!(a==0) || !(b==0)) else tr ((a==0) || !(b==0))
theorem aP (b:Bool):tr b<65536:=by cases b<;>decide
theorem AV2 {op:Int}{a:Nat}(ha:a<65536):sgW op a<65536:=by
 unfold sgW;by_cases h4:op=4
 .rw[if_pos h4]; exact aP _
 by_cases h5:op=5
 .rw[if_neg h4,if_pos h5]; omega
 by_cases h6:op=6
 .rw[if_neg h4,if_neg h5,if_pos h6]; exact qW _ U
 .rw[if_neg h4,if_neg h5,if_neg h6]
  have:=RQ a 16;unfold YY; omega
theorem AXB {op:Int}{a b:Nat}(ha:a<65536)(hb:b<65536):dbW op a b<65536:=by
 unfold dbW;by_cases h7:op=7
 .rw[if_pos h7]; exact qW _ U
 by_cases h8:op=8
 .rw[if_neg h7,if_pos h8]; exact qW _ U
 by_cases h9:op=9
 .rw[if_neg h7,if_neg h8,if_pos h9]; exact qW _ U
 by_cases h10:op=10
 .rw[if_neg h7,if_neg h8,if_neg h9,if_pos h10]; exact Nat.lt_of_le_of_lt Nat.and_le_left ha
 by_cases h11:op=11
 .rw[if_neg h7,if_neg h8,if_neg h9,if_neg h10,if_pos h11]; exact Nat.or_lt_two_pow (n:=16) U U
 by_cases h12:op=12
 .rw[if_neg h7,if_neg h8,if_neg h9,if_neg h10,if_neg h11,if_pos h12]; exact Nat.xor_lt_two_pow (n:=16) U U
 by_cases h13:op=13
 .rw[if_neg h7,if_neg h8,if_neg h9,if_neg h10,if_neg h11,if_neg h12,if_pos h13]; exact AFX
 by_cases h14:op=14
 .rw[if_neg h7,if_neg h8,if_neg h9,if_neg h10,if_neg h11,if_neg h12,if_neg h13,if_pos h14]; exact AFW ha
 by_cases h15:op=15
 .rw[if_neg h7,if_neg h8,if_neg h9,if_neg h10,if_neg h11,if_neg h12,if_neg h13,if_neg h14,if_pos h15]; exact aP _
 by_cases h16:op=16
 .rw[if_neg h7,if_neg h8,if_neg h9,if_neg h10,if_neg h11,if_neg h12,if_neg h13,if_neg h14,if_neg h15,if_pos h16]; exact aP _
 by_cases h17:op=17
 .rw[if_neg h7,if_neg h8,if_neg h9,if_neg h10,if_neg h11,if_neg h12,if_neg h13,if_neg h14,if_neg h15,if_neg h16,if_pos h17]; exact aP _
 by_cases h18:op=18
 .rw[if_neg h7,if_neg h8,if_neg h9,if_neg h10,if_neg h11,if_neg h12,if_neg h13,if_neg h14,if_neg h15,if_neg h16,if_neg h17,if_pos h18]; exact aP _
 by_cases h19:op=19
 .rw[if_neg h7,if_neg h8,if_neg h9,if_neg h10,if_neg h11,if_neg h12,if_neg h13,if_neg h14,if_neg h15,if_neg h16,if_neg h17,if_neg h18,if_pos h19]; exact aP _
 by_cases h20:op=20
 .rw[if_neg h7,if_neg h8,if_neg h9,if_neg h10,if_neg h11,if_neg h12,if_neg h13,if_neg h14,if_neg h15,if_neg h16,if_neg h17,if_neg h18,if_neg h19,if_pos h20]; exact aP _
 .rw[if_neg h7,if_neg h8,if_neg h9,if_neg h10,if_neg h11,if_neg h12,if_neg h13,if_neg h14,if_neg h15,if_neg h16,if_neg h17,if_neg h18,if_neg h19,if_neg h20]; exact aP _
theorem eqc (a b:Nat):((a:Int)==(b:Int))=(a==b):=by
 rw[wI]; simp only[beq_iff_eq]; omega
theorem eqz (a:Nat):((a:Int)==0)=(a==0):=eqc a 0
theorem nec (a b:Nat):((a:Int) != (b:Int)) = !(a==b):=congrArg not (eqc a b)
theorem nez (a:Nat):((a:Int) != 0) = !(a==0):=nec a 0
theorem ltc (a b:Nat):decide ((a:Int)<(b:Int))=decide (a<b):=by
 rw[wI]; simp only[decide_eq_true_eq]; omega
theorem lec (a b:Nat):decide ((a:Int)<=(b:Int))=decide (a<=b):=by
 rw[wI]; simp only[decide_eq_true_eq]; omega
theorem MW (b:Bool)(h:Hp):PCall (En G) 344 [.bool b] h (.n (tr b:Nat)):=by
 refine acT Tryz.func344 2 ?_;cases b
 all_goals
  refine Z ?_;exact⟨rfl,trivial⟩
theorem wA (op:Int)(a:Nat)(ha:a<65536)(h:Hp):PCall (En G) 318 [.n op,.n (a:Nat)] h (.n (sgW op a:Nat)):=by
 refine acT Tryz.func318 4 ?_;have hcase:op=4∨op=5∨op=6∨(op≠4∧op≠5∧op≠6):=U;rcases hcase with rfl|rfl|rfl|⟨n4,n5,n6⟩
 .refine TM eqz ?_
  refine(MW G _ h).uu ?_;exact⟨rfl,trivial⟩
 .refine XQ ?_
  refine(AZT G a ha h).uu ?_;exact⟨rfl,trivial⟩
 .refine XQ ?_
  refine(AY5 G a ha h).uu ?_;exact⟨rfl,trivial⟩
 .refine DI (beq_eq_false_iff_ne.2 n4) (beq_eq_false_iff_ne.2 n5) (beq_eq_false_iff_ne.2 n6) ?_
  refine(AJG G a ha h).uu ?_;exact⟨by unfold sgW; rw[if_neg n4,if_neg n5,if_neg n6],trivial⟩
theorem ABA (op:Int)(a b:Nat)(ha:a<65536)(hb:b<65536)(h:Hp):PCall (En G) 319 [.n op,.n (a:Nat),.n (b:Nat)] h (.n (dbW op a b:Nat)):=by
 refine acT Tryz.func319 6 ?_;have hcase:op=7∨op=8∨op=9∨op=10∨op=11∨op=12∨op=13∨op=14∨op=15∨op=16∨op=17∨op=18∨op=19∨op=20∨(op<7∨20<op):=U;rcases hcase with rfl|rfl|rfl|rfl|rfl|rfl|rfl|rfl|rfl|rfl|rfl|rfl|rfl|rfl|hop
 .refine XQ ?_
  refine(AVL G a b ha hb h).uu ?_;exact⟨rfl,trivial⟩
 .refine XQ ?_
  refine(AYH G a b ha hb h).uu ?_;exact⟨rfl,trivial⟩
 .refine XQ ?_
  refine(AY6 G a b ha hb h).uu ?_;exact⟨rfl,trivial⟩
 .refine TM (A1G a b ha hb) ?_
  exact⟨rfl,trivial⟩
 .refine TM (A21 a b ha hb) ?_
  exact⟨rfl,trivial⟩
 .refine TM (AX5 a b ha hb) ?_
  exact⟨rfl,trivial⟩
 .refine XQ ?_
  refine(shl_w G a (b:Nat) ha h).uu ?_;exact⟨rfl,trivial⟩
 .refine XQ ?_
  refine(AYQ G a (b:Nat) ha h).uu ?_;exact⟨rfl,trivial⟩
 .refine OQ eqc nec ltc lec ?_
  refine(MW G _ h).uu ?_;exact⟨rfl,trivial⟩
 .refine OQ eqc nec ltc lec ?_
  refine(MW G _ h).uu ?_;exact⟨rfl,trivial⟩
 .refine OQ eqc nec ltc lec ?_
  refine(MW G _ h).uu ?_;exact⟨rfl,trivial⟩
 .refine OQ eqc nec ltc lec ?_
  refine(MW G _ h).uu ?_;exact⟨rfl,trivial⟩
 .refine J3 eqz nez ?_
  cases h1:(a==0)<;>cases h2:(b==0)
  all_goals
   refine DI h1 h2 nez ?_;refine(MW G _ h).uu ?_;exact⟨by unfold dbW; rw[h1,h2]; rfl,trivial⟩
 .refine J3 eqz nez ?_
  cases h1:(a==0)<;>cases h2:(b==0)
  all_goals
   refine DI h1 h2 nez ?_;refine(MW G _ h).uu ?_;exact⟨by unfold dbW; rw[h1,h2]; rfl,trivial⟩
 .have hne:∀k:Int,7<=k->k<=20->(op==k)=false:=fun k _ _=>beq_eq_false_iff_ne.2 U
  have hd:dbW op a b=tr ((a==0) || !(b==0)):=by
   unfold dbW;rw[if_neg (U:¬op=7),if_neg (U:¬op=8),if_neg (U:¬op=9),if_neg (U:¬op=10),if_neg (U:¬op=11),if_neg (U:¬op=12),if_neg (U:¬op=13),if_neg (U:¬op=14),if_neg (U:¬op=15),if_neg (U:¬op=16),if_neg (U:¬op=17),if_neg (U:¬op=18),if_neg (U:¬op=19),if_neg (U:¬op=20)]
  rw[hd];simp -implicitDefEqProofs only[vQ,ED,CJ,JO,GK,↓reduceIte,jC,enX,enP,hne 7 DK DK,hne 8 DK DK,hne 9 DK DK,hne 10 DK DK,hne 11 DK DK,hne 12 DK DK,hne 13 DK DK,hne 14 DK DK,hne 15 DK DK,hne 16 DK DK,hne 17 DK DK,hne 18 DK DK,hne 19 DK DK,hne 20 DK DK,eqz,nez];cases h1:(a==0)<;>cases h2:(b==0)
  all_goals
   refine DI h1 h2 nez ?_;refine(MW G _ h).uu ?_;exact⟨A7,trivial⟩
abbrev Sg:=ByteArray×Int
def FY (s:Sg):List AV:=[.str s.1,.n s.2]
theorem AKF (s:Sg):(FY s).length=2:=rfl
def OM:List Sg->ByteArray->Nat×Bool
 | [],_=>(0,false)
 | s::l,n=>if(s.1.toList==n.toList)=true then (wW s.2,true) else OM l n
theorem kZ:∀(l:List Sg) (n:ByteArray),(OM l n).1<65536
 | [],_=>by simp [OM]
 | s::l,n=>by unfold OM; split; exact AFM _; exact kZ l n
theorem AD5 (l:List Sg)(n:ByteArray)(k:Nat)(hk:k<l.length):OM (l.drop k) n=if(l[k].1.toList==n.toList)=true then (wW l[k].2,true) else OM (l.drop (k+1)) n:=by
 rw[zS hk]; rfl
def YW (p:Nat×Bool):AV:=.tup [.n (p.1:Nat),.bool p.2]
theorem yG (p:Nat×Bool)(n:Nat)(H:Hp):FI n H 2 (YW p)=YW p:=rfl
theorem A1M (h:Hp):F9 jA h 209=some (.ptr h.length 0 0,h++[qF 2 [[.str ⟨#[]⟩,.n 0]]]):=FC (row:=[.str ⟨#[]⟩,.n 0]) AZ
theorem AYO (h:Hp)(s:Sg):DX jA (h++[qF 2 [[.str ⟨#[]⟩,.n 0]]]) 209 (.ptr h.length 0 0) (.agg (FY s))=some (h++[qF 2 [FY s]]):=by
 rw[IY (cs:=FY s) (row:=[.str ⟨#[]⟩,.n 0]) rfl AL0 (AX _ _) (by exact jF 2),KH];rfl
theorem ABU (h:Hp)(u:AV)(hu:u.leaf=true):MP h (.agg [u])=some (.ptr h.length 0 0,h++[qF 1 [[u]]]):=YH (by simp only[List.all_cons,hu,List.all_nil]; rfl)
theorem YZ {h:Hp}{b:Nat}{u:AV}(hb:h[b]?=some (qF 1 [[u]])):BO jA h 277 (.ptr b 0 0)=some (.agg [u]):=by
 rw[EH A1S AUI hb rfl (by exact jF 1)]; rfl
theorem SV {P:Program}{t:TypeId}{a b:ByteArray}(h:a.size+b.size<=9223372036854775807):H9 P t .add (.str a) (.str b)=some (.str (a++b)):=by
 show AP8 .add a b=_;unfold AP8
 have:((a.size+b.size:Nat):Int)<=IntKind.i64.max:=by
  show _<=(9223372036854775807:Int);omega
 simp only[if_pos this]
section
variable (G:Nat->AV)
theorem dI (l:List Sg)(m:SM)(n:ByteArray)(h:Hp)(hl:l.length<=1099511627776):PCall (En G) 280 [.agg [.sl m 2 (l.map FY)],.str n] h (YW (OM l n)):=by
 refine UC 2 (yG _) ?_;refine acL Tryz.func280 [.tmp 4,.tmp 5] ?_;refine EO AZG @ASV (ABU h (.sl m 2 (l.map FY)) rfl) (FZ A1X (AX h (qF 1 [[.sl m 2 (l.map FY)]]))) ?_;refine BB (fun k F H=>∃j,k+j=l.length∧F 1=.str n∧F 9=.sl m 2 (l.map FY)∧F 10=.n (l.length:Nat)∧F 11=.n (j:Nat)∧ext h H∧OM l n=OM (l.drop j) n) l.length ⟨0,A8,AC,AC,AC,AC,(ext.rfl' h).app _,rfl⟩ ?_;rintro k F H ⟨j,hj,f1,f9,f10,f11,hx,hf⟩;refine AQ f10 f11 ?_;refine DU ?_ ?_<;>intro hj'
 .have g:=AX H (qF 2 [FY l[j]])
  have l0:BO jA (H++[qF 2 [FY l[j]]]) 9 (.ptr H.length 0 0)=some (.str l[j].1):=by rw[BH ag9 g (row:=FY l[j]) rfl]; rfl
  have l1:BO jA (H++[qF 2 [FY l[j]]]) 3 (.ptr H.length 0 1)=some (.n l[j].2):=by rw[BH ag3 g (row:=FY l[j]) rfl]; rfl
  rw[AD5 l n j hj'] at hf;simp -implicitDefEqProofs only[vQ,CJ,OO,↓reduceIte,jC,Nat.add_zero,enP,AUW,ASY,Option.getD_none,f1,f9,f11,CG hj',CY A1V AL0 AKF hj',A1M,AYO,l0];refine BG ?_ ?_<;>intro hb
  .refine AQ @AHB l1 ?_
   refine(AH8 G _ _).uu ?_;exact⟨by rw[hf,if_pos hb]; rfl,hx.app _⟩
  .refine AQ f11 (CW j) ?_
   exact⟨k-1,U,j+1,U,A7,A7,A7,rfl,hx.app _,by rw[hf,if_neg (by rw[hb]; decide)]⟩
 .refine Z ?_
  exact⟨by rw[hf,List.drop_eq_nil_of_le U]; rfl,hx⟩
def elN (a:ByteArray)(i:Nat):ByteArray:=a++(⟨#[91]⟩:ByteArray)++(⟨#[UInt8.ofNat (48+i)]⟩:ByteArray)++(⟨#[93]⟩:ByteArray)
def atG (l:List Sg)(a:ByteArray)(i:Int):Nat×Bool:=if i<0∨i≥8 then (0,false) else OM l (elN a i.toNat)
theorem APY (l:List Sg)(a:ByteArray)(i:Int):(atG l a i).1<65536:=by unfold atG; split; decide; exact kZ _ _
theorem ABB:∀i:Nat,i<8->XP jA 334 9 (.sl .full 1 [[.int .u8 (IntKind.u8.wrap (IntKind.i64.wrap (48+(i:Int))))]])=some (.str ⟨#[UInt8.ofNat (48+i)]⟩)
 | 0,_=>AZ
 | 1,_=>AZ
 | 2,_=>AZ
 | 3,_=>AZ
 | 4,_=>AZ
 | 5,_=>AZ
 | 6,_=>AZ
 | 7,_=>AZ
 | n+8,h=>absurd h U
theorem AVA (h:Hp)(v:Int):C9 jA false h 334 1 [(0,.int .u8 v)]=some (.sl .full 1 [[.int .u8 v]],h):=AZ
theorem YI (a b:ByteArray):(a++b).size=a.size+b.size:=ByteArray.size_append
theorem uP (l:List Sg)(m:SM)(a:ByteArray)(i:Int)(h:Hp)(hl:l.length<=1099511627776)(ha:a.size<=1048576):PCall (En G) 281 [.agg [.sl m 2 (l.map FY)],.str a,.n i] h (YW (atG l a i)):=by
 refine UC 2 (yG _) ?_;refine acL Tryz.func281 [.tmp 6,.tmp 7] ?_;have hx:ext h (h++[qF 1 [[.sl m 2 (l.map FY)]]]):=(ext.rfl' h).app _;refine AO (ABU h (.sl m 2 (l.map FY)) rfl) ?_;cases h1:decide (i<0)
 .cases h2:decide (i≥8)
  .have h1':¬i<0:=BL h1
   have h2':¬i≥8:=BL h2;obtain⟨k,rfl⟩:=Int.eq_ofNat_of_zero_le (U:0<=i);have hk:k<8:=U;have e1:H9 jA 9 .add (.str a) (.str ⟨#[91]⟩)=_:=SV (by show a.size+1<=_; omega);have e2:H9 jA 9 .add (.str (a++(⟨#[91]⟩:ByteArray))) (.str ⟨#[UInt8.ofNat (48+k)]⟩)=_:=SV (by rw[YI]; show a.size+1+1<=_; omega);have e3:H9 jA 9 .add (.str (a++(⟨#[91]⟩:ByteArray)++(⟨#[UInt8.ofNat (48+k)]⟩:ByteArray))) (.str ⟨#[93]⟩)=_:=SV (by rw[YI,YI]; show a.size+1+1+1<=_; omega);refine QZ @AU5 h2 (YZ (AX h (qF 1 [[.sl m 2 (l.map FY)]]))) e1 AVA (ABB k hk) e2 e3 ?_;refine(dI G l m _ _ hl).use ?_;unfold YW;refine Z ?_;exact⟨by unfold atG; rw[if_neg U]; rfl,hx⟩
  .refine AO h2 ?_
   have h2':i≥8:=BL h2;exact⟨by unfold atG; rw[if_pos (.inr h2')]; rfl,hx⟩
 .refine Z ?_
  have h1':i<0:=BL h1;exact⟨by unfold atG; rw[if_pos (.inl h1')]; rfl,hx⟩
def sumTo (l:List Sg)(a:ByteArray):Nat->Nat
 | 0=>0
 | k+1=>(sumTo l a k+(atG l a (k:Nat)).1)%65536
theorem vP (l:List Sg)(a:ByteArray)(k:Nat):sumTo l a k<65536:=by
 cases k with
 | zero=>show 0<65536; decide
 | succ k=>exact qW _ U
theorem AL3 (l:List Sg)(m:SM)(a:ByteArray)(h:Hp)(hl:l.length<=1099511627776)(ha:a.size<=1048576):PCall (En G) 282 [.agg [.sl m 2 (l.map FY)],.str a] h (.n (sumTo l a 8:Nat)):=by
 refine ACalls.pure0 rfl ?_;refine acT Tryz.func282 4 ?_;have g:=AX h (qF 1 [[.sl m 2 (l.map FY)]]);refine AO (ABU h (.sl m 2 (l.map FY)) rfl) ?_
 generalize hH:h++[qF 1 [[.sl m 2 (l.map FY)]]]=H at g|-
 refine BB (fun k F H'=>∃j,k+j=8∧F 1=.str a∧F 2=.ptr h.length 0 0∧F 5=.n (sumTo l a j:Nat)∧F 9=.n (j:Nat)∧H'=H) 8 ⟨0,A8,AC,AC,AC,AC,rfl⟩ ?_;rintro k F H' ⟨j,hj,f1,f2,f5,f9,rfl⟩;refine AO f9 ?_;refine BG ?_ ?_<;>intro hc
 .have hj':j<8:=by simp at hc; omega
  refine EO f1 f2 f9 (YZ g) ?_;refine(uP G l m a (j:Nat) H' hl ha).use ?_;unfold YW;refine AO f5 ?_;refine(AVL G _ _ (vP l a j) (APY l a (j:Nat)) H').use ?_;refine EO f1 f2 f9 (CW j) ?_;exact⟨k-1,U,j+1,U,A7,A7,A7,A7,trivial⟩
 .have hj':j=8:=by simp at hc; omega
  subst hj';refine AO f5 ?_;exact⟨trivial,_,hH.symm⟩
end
def zE (x:Nat):List Nat->Bool
 | a::b::r=>(decide (a<=x)&&decide (x<=b))||zE x r
 | _=>false
def opW (op:Int)(vs:List Nat):Nat :=
 if op=22 then (if vs.getD 0 0≠0 then vs.getD 1 0 else vs.getD 2 0) else if op=23 then tr (zE (vs.getD 0 0) (vs.drop 1))
 else if vs.length=1 then sgW op (vs.getD 0 0) else dbW op (vs.getD 0 0) (vs.getD 1 0)
theorem getD_lt {vs:List Nat}(hv:∀x∈vs,x<65536)(k:Nat):vs.getD k 0<65536:=by
 rw[qY];rcases Nat.lt_or_ge k vs.length with h|h
 .rw[jI h]; exact hv _ (jH h)
 .rw[List.getElem?_eq_none h]; decide
theorem AWD (op:Int){vs:List Nat}(hv:∀x∈vs,x<65536):opW op vs<65536:=by
 unfold opW;have h0:=getD_lt hv 0;have h1:=getD_lt hv 1;have h2:=getD_lt hv 2;split
 .split<;>assumption
 split
 .exact aP _
 split
 .exact AV2 h0
 .exact AXB h0 h1
theorem AJZ (x:Nat)(l:List Nat)(k:Nat)(hk:k+1<l.length):zE x (l.drop k)=((decide (l[k]<=x)&&decide (x<=l[k+1]))||zE x (l.drop (k+2))):=by
 rw[zS (U:k<l.length),zS hk]; rfl
theorem ANZ (x:Nat)(l:List Nat)(k:Nat)(hk:l.length<=k+1):zE x (l.drop k)=false:=by
 have:(l.drop k).length<=1:=by simp; omega
 match hm:l.drop k,this with
 | [],_=>rfl
 | [a],_=>rfl
theorem gec (a b:Nat):decide ((a:Int)≥(b:Int))=decide (b<=a):=lec b a
def AQE (op:Int)(n:Nat):Prop:=(op=22->n=3)∧(op=23->n%2=1∧3<=n)∧(op≠22->op≠23->n=1∨n=2)
theorem AJF (op:Int)(vs:List Nat)(o:Nat)(H:Hp)(ho:H[o]?=some (qF 1 (vs.map J5)))(hv:∀x∈vs,x<65536)(hl:vs.length<=1048576)(hops:AQE op vs.length):
  PCall (En G) 283 [.n op,.own o 0 vs.length] H (.n (opW op vs:Nat)):=by
 have hix:∀k:Nat,k<vs.length->JM 1 H (.own o 0 vs.length) (.n (k:Nat))=some (.ptr o k 0):=fun k hk=>by rw[IG ho hk,Nat.zero_add]
 have hld:∀(k:Nat) (hk:k<vs.length),BO jA H 3 (.ptr o k 0)=some (.n (vs[k]:Nat)):=fun k hk=>by rw[BH ag3 ho (row:=J5 vs[k]) (row_map hk)]; rfl
 have h1:1<=vs.length:=by
  obtain⟨a,b,c⟩:=hops;by_cases e:op=22
  .have:=a e; omega
  by_cases e':op=23
  .have:=b e'; omega
  .have:=c e e'; omega
 have i0:JM 1 H (.own o 0 vs.length) (.n 0)=some (.ptr o 0 0):=hix 0 h1;have d0:=hld 0 h1;have g0:vs.getD 0 0=vs[0]:=by rw[qY,jI h1]; rfl
 have v0:vs[0]<65536:=hv _ (jH _);refine acT Tryz.func283 4 ?_;by_cases e22:op=22
 .subst e22
  have hl3:vs.length=3:=hops.1 rfl;have i1:JM 1 H (.own o 0 vs.length) (.n 1)=some (.ptr o 1 0):=hix 1 U;have i2:JM 1 H (.own o 0 vs.length) (.n 2)=some (.ptr o 2 0):=hix 2 U;have d1:=hld 1 U;have d2:=hld 2 U;have g1:vs.getD 1 0=vs[1]:=by rw[qY,jI U]; rfl
  have g2:vs.getD 2 0=vs[2]:=by rw[qY,jI U]; rfl
  refine OQ i0 d0 eqz nez ?_;cases hz:(vs[0]==0)
  .refine AQ i1 d1 ?_
   have:vs[0]≠0:=BL hz;exact⟨by unfold opW; rw[if_pos rfl,g0,if_pos this,g1],trivial⟩
  .refine AQ i2 d2 ?_
   have:¬vs[0]≠0:=BL hz;exact⟨by unfold opW; rw[if_pos rfl,g0,if_neg this,g2],trivial⟩
 by_cases e23:op=23
 .subst e23
  obtain⟨hodd,h3⟩:=hops.2.1 rfl;refine XQ ?_;have hval:opW 23 vs=tr (zE vs[0] (vs.drop 1)):=by unfold opW; rw[if_neg DK,if_pos rfl,g0]
  rw[hval];refine BB (fun n F H'=>∃j,n+j=vs.length∧j%2=1∧F 1=.own o 0 vs.length∧F 5=.n (j:Nat)∧H'=H∧zE vs[0] (vs.drop 1)=zE vs[0] (vs.drop j)) (vs.length-1) ⟨1,U,rfl,AC,AC,rfl,rfl⟩ ?_;rintro n F H' ⟨j,hj,hj2,f1,f5,rfl,hin⟩;refine DI f1 f5 (CW j) ?_;refine BG ?_ ?_<;>intro hc
  .have hc':j+1<vs.length:=by simp at hc; omega
   have ij:=hix j U;have ij1:=hix (j+1) hc';have dj:=hld j U;have dj1:=hld (j+1) hc';rw[AJZ _ _ _ hc'] at hin;have e2:IntKind.i64.wrap (((j:Nat):Int)+2)=((j+2:Nat):Int):=by rw[wrap_i64 U U]; omega
   have es:IntKind.i64.wrap (((j:Nat):Int)+1)=((j+1:Nat):Int):=wrap_succ (U:j<9223372036854775807);refine Z ?_;refine DJ AZ ?_;refine aE f1 f5 i0 d0 ij dj es ij1 dj1 lec gec ?_;cases ha:decide (vs[j]<=vs[0])
   .refine DI ha f5 e2 ?_
    exact⟨n-2,U,j+2,U,U,A7,A7,trivial,by rw[hin,ha]; rfl⟩
   .cases hb:decide (vs[0]<=vs[j+1])
    .refine aE ha hb f1 f5 es ij1 dj1 lec i0 d0 e2 ?_
     exact⟨n-2,U,j+2,U,U,A7,A7,trivial,by rw[hin,ha,hb]; rfl⟩
    .refine aF ha hb f1 f5 es ij1 dj1 lec i0 d0 ?_
     exact⟨by rw[hin,ha,hb]; rfl,trivial⟩
  .have hc':vs.length<=j+1:=by simp at hc; omega
   refine Z ?_;exact⟨by rw[hin,ANZ _ _ _ hc']; rfl,trivial⟩
 .have n12:=hops.2.2 e22 e23
  have c1:(op==22)=false:=beq_eq_false_iff_ne.2 e22;have c2:(op==23)=false:=beq_eq_false_iff_ne.2 e23;have hval:opW op vs=if vs.length=1 then sgW op (vs.getD 0 0) else dbW op (vs.getD 0 0) (vs.getD 1 0):=by unfold opW; rw[if_neg e22,if_neg e23]
  rw[hval];refine AQ c1 c2 ?_;refine BG ?_ ?_<;>intro hc
  .have hl1:vs.length=1:=by simp at hc; omega
   refine AQ i0 d0 ?_;refine(wA G op _ v0 H).uu ?_;exact⟨by rw[if_pos hl1,g0],trivial⟩
  .have hl1:vs.length≠1:=by simp at hc; omega
   have i1:JM 1 H (.own o 0 vs.length) (.n 1)=some (.ptr o 1 0):=hix 1 U;have d1:=hld 1 U;have g1:vs.getD 1 0=vs[1]:=by rw[qY,jI U]; rfl
   have v1:vs[1]<65536:=hv _ (jH _);refine Z ?_;refine DJ AZ ?_;refine EO i0 d0 i1 d1 ?_;refine⟨_,ABA G op _ _ v0 v1 H,?_⟩;exact⟨by rw[if_neg hl1,g0,g1],trivial⟩
end Go.Proofs.YtiihpnicbekebaaGreatDoor.Xe
namespace Go.Proofs.YtiihpnicbekebaaGreatDoor.Rk
open Sm Bins Cov Go.RowKit
theorem ACalls.args {E:Env}{f:FuncId}{as1 as2:List AV}{h:Hp}{R:AV->Hp->Prop}(hc:ACalls E f as2 h R)(ha:∀g cargs,YS g as1 cargs->YS g as2 cargs):ACalls E f as1 h R :=
 ⟨hc.1,fun g w cargs S hr=>hc.2 g w cargs S (ha g cargs hr)⟩
def hasB (xs:List Int)(z:Int):Bool:=xs.any fun x=>x==z
theorem ADW (G:Nat->AV)(xs:List Int)(s:SM)(z:Int)(h:Hp)(hn:xs.length<=1048576):∃k:Int,PCall (En G) 322 [.sl s 1 (xs.map qencI),.n z] h (.n k)∧decide (k≥0)=hasB xs z:=by
 by_cases hb:hasB xs z=true
 .obtain⟨i,hi⟩:∃i,xs.findIdx? (fun x=>x==z)=some i:=by
   cases he:xs.findIdx? (fun x=>x==z) with
   | some i=>exact⟨i,rfl⟩
   | none =>
     rw[List.findIdx?_eq_none_iff] at he;unfold hasB at hb;rw[List.any_eq_true] at hb;obtain⟨x,hx,hz⟩:=hb;rw[he x hx] at hz; cases hz
  refine⟨(i:Int),?_,by rw[hb]; simp⟩;obtain⟨hil,hiz,hbef⟩:=List.findIdx?_eq_some_iff_getElem.1 hi;refine acT Tryz.func322 4 ?_;refine Z ?_;refine BB (fun n F H=>∃k,n+k=xs.length∧k<=i∧F 0=.sl s 1 (xs.map qencI)∧F 1=.n z∧F 7=.n (xs.length:Nat)∧F 8=.n (k:Nat)∧H=h) xs.length ⟨0,A8,U,AC,AC,AC,AC,rfl⟩ ?_;rintro n F H ⟨k,hk,hki,f0,f1,f7,f8,rfl⟩;have hk':k<xs.length:=U;have hd:decide (((k:Nat):Int)<((xs.length:Nat):Int))=true:=by simp; omega
  simp -implicitDefEqProofs only[vQ,NK,CJ,JO,↓reduceIte,Nat.reduceEqDiff,Option.getD_some,bNf,enP,KJ,f7,f8,hd,f0,f1,CG hk',BP ag3 hk',Cov.encI0];rcases Nat.eq_or_lt_of_le hki with e|hlt
  .subst e
   have hzz:(z==xs[k])=true:=by rw[BEq.comm]; exact hiz
   refine AQ hzz f8 ?_;exact G8
  .have hzz:(z==xs[k])=false:=by
    have:=hbef k hlt;rw[BEq.comm]; simpa using this
   refine DI hzz f8 (CW k) ?_;exact⟨n-1,U,k+1,U,U,A7,A7,A7,rfl,trivial⟩
 .have hb':hasB xs z=false:=BL hb
  refine⟨-1,?_,by rw[hb']; decide⟩;refine acT Tryz.func322 4 ?_;refine Z ?_;refine BB (fun n F H=>∃k,n+k=xs.length∧F 0=.sl s 1 (xs.map qencI)∧F 1=.n z∧F 7=.n (xs.length:Nat)∧F 8=.n (k:Nat)∧H=h) xs.length ⟨0,A8,AC,AC,AC,AC,rfl⟩ ?_;rintro n F H ⟨k,hk,f0,f1,f7,f8,rfl⟩;refine AQ f7 f8 ?_;refine BG ?_ ?_<;>intro hc
  .have hk':k<xs.length:=BL hc
   have hzz:(z==xs[k])=false:=by
    rw[<-Bool.not_eq_true]; intro e;unfold hasB at hb';rw[List.any_eq_false] at hb';exact hb' xs[k] (List.getElem_mem hk') (by rw[BEq.comm]; exact e)
   refine NZ f0 f1 f8 hk' @Cov.encI0 hzz (CW k) ?_;exact⟨n-1,U,k+1,U,A7,A7,f7,rfl,trivial⟩
  .refine Z ?_
   exact G8
theorem contains_rank (G:Nat->AV)(xs:List Int)(s:SM)(z:Int)(h:Hp)(hn:xs.length<=1048576):PCall (En G) 286 [.sl s 1 (xs.map qencI),.n z] h (.bool (hasB xs z)):=by
 obtain⟨k,hk,hd⟩:=ADW G xs s z h hn;refine acT Tryz.func286 4 ?_;refine Z ?_;refine hk.use ?_;refine AO hd ?_;exact G8
end Go.Proofs.YtiihpnicbekebaaGreatDoor.Rk
namespace Go.Proofs.YtiihpnicbekebaaGreatDoor.Xe
open Sm Bins Cov Go.RowKit
variable {h h0:Hp} {ns:List ByteArray} {c:Nat} {v:AV} (G:Nat->AV )
theorem AWX:Frz qencStr:=fun _ _ _ _=>⟨rfl,rfl⟩
theorem encStr0 (s:ByteArray):(qencStr s)[0]?=some (.str s):=rfl
theorem AJ3 (xs:List ByteArray)(b:Nat)(v:ByteArray)(h:Hp)(hb:h[b]?=some (qF 1 (xs.map qencStr)))(hl:xs.length<=1099511627776):
  ∃k:Int,PCall (En G) 279 [.own b 0 xs.length,.str v] h (.n k)∧decide (k≥0)=G7 xs v:=by
 have key:∀r:Int,(∀i (hi:i<xs.length),(∀j (hj:j<i),(v.toList==xs[j].toList)=false)->(v.toList==xs[i].toList)=true->r=(i:Int))->(G7 xs v=false->r = -1)->PCall (En G) 279 [.own b 0 xs.length,.str v] h (.n r):=by
  intro r hr hr0;refine acT Tryz.func279 4 ?_;refine Z ?_;refine BB (fun n F H=>∃k,n+k=xs.length∧F 0=.own b 0 xs.length∧F 1=.str v∧F 7=.n (xs.length:Nat)∧F 8=.n (k:Nat)∧H=h∧(∀j (hj:j<xs.length),j<k->(v.toList==xs[j].toList)=false)∧G7 xs v=G7 (xs.drop k) v) xs.length ⟨0,A8,AC,AC,AC,AC,rfl,fun j _ hj=>U,rfl⟩ ?_;rintro n F H ⟨k,hk,f0,f1,f7,f8,rfl,hbef,hin⟩;refine AQ f7 f8 ?_;refine DU ?_ ?_<;>intro hk'
  .have hs:G7 (xs.drop k) v=((v.toList==xs[k].toList)||G7 (xs.drop (k+1)) v):=LZ _ xs k hk'
   have l1:BO jA H 9 (.ptr b k 0)=some (.str xs[k]):=by rw[BH ag9 hb (row:=qencStr xs[k]) (row_map hk')]; rfl
   simp -implicitDefEqProofs only[vQ,CJ,OO,↓reduceIte,jC,Nat.zero_add,enP,Y0,f0,f1,f8,IG hb hk',l1];refine BG ?_ ?_<;>intro hx
   .refine Z ?_
    exact⟨by rw[hr k hk' (fun j hj=>hbef j U hj) hx],trivial⟩
   .refine AQ f8 (CW k) ?_
    refine⟨n-1,U,k+1,U,A7,A7,A7,rfl,trivial,fun j hj hjk=>?_,by rw[hin,hs,hx,Bool.false_or]⟩;rcases Nat.lt_or_ge j k with h1|h1
    .exact hbef j hj h1
    .have:j=k:=U
     subst this; exact hx
  .refine Z ?_
   refine⟨?_,trivial⟩;rw[hr0 (by rw[hin,List.drop_eq_nil_of_le U]; rfl)]
 by_cases hh:G7 xs v=true
 .obtain⟨i,hi⟩:∃i,xs.findIdx? (fun u=>v.toList==u.toList)=some i:=by
   cases he:xs.findIdx? (fun u=>v.toList==u.toList) with
   | some i=>exact⟨i,rfl⟩
   | none =>
     rw[List.findIdx?_eq_none_iff] at he;unfold G7 at hh;rw[List.any_eq_true] at hh;obtain⟨x,hx,hz⟩:=hh;rw[he x hx] at hz; cases hz
  obtain⟨hil,hiz,hbef⟩:=List.findIdx?_eq_some_iff_getElem.1 hi;refine⟨(i:Int),key i (fun k hk hb' hx=>?_) (fun h0=>by rw[hh] at h0; cases h0),by rw[hh]; simp⟩;rcases Nat.lt_trichotomy i k with h1|h1|h1
  .have:=hb' i h1; rw[hiz] at this; cases this
  .rw[h1]
  .have:=hbef k h1; rw[hx] at this; simp at this
 .have hh':G7 xs v=false:=BL hh
  refine⟨-1,key (-1) (fun k hk _ hx=>?_) (fun _=>rfl),by rw[hh']; decide⟩;unfold G7 at hh';rw[List.any_eq_false] at hh';exact absurd hx (hh' xs[k] (jH hk))
theorem AJ4 (k:Nat)(v:ByteArray)(h:Hp):PCall (En G) 279 [.sl .nil k [],.str v] h (.n (-1)):=by
 refine acT Tryz.func279 4 ?_;refine XQ ?_;refine BB (fun n F H=>F 7=.n 0∧F 8=.n 0∧H=h) 0 ⟨AC,AC,rfl⟩ ?_;rintro n F H ⟨f7,f8,rfl⟩;have hc:((0:Int)<0)=False:=A8;refine JL @decide_false f7 f8 hc @decide_false ?_;exact⟨A7,trivial⟩
theorem A0I {u:AV}(ho:outG 1 qencStr h0 ns u h)(v:ByteArray)(hl:ns.length<=8388608):PCall (En G) 219 [u,.str v] h (.bool (G7 ns v)):=by
 have hi:∃k:Int,PCall (En G) 279 [u,.str v] h (.n k)∧decide (k≥0)=G7 ns v:=by
  rcases ho with⟨rfl,rfl⟩|⟨_,o,_,rfl,hb⟩
  .exact⟨-1,AJ4 G 0 v h,rfl⟩
  .exact AJ3 G ns o v h hb U
 obtain⟨k,hk,hd⟩:=hi;refine acT Tryz.func219 4 ?_;refine Z ?_;refine hk.use ?_;refine AO hd ?_;exact G8
def nmU (ops:List Int)(ns:List ByteArray)(e:Ex):List ByteArray:=if(Rk.hasB ops e.op && !G7 ns e.name)=true then ns++[e.name] else ns
def nmL (ops:List Int)(ns:List ByteArray)(l:List Ex):List ByteArray:=l.foldl (nmU ops) ns
theorem AGG (ops:List Int)(ns:List ByteArray)(e:Ex):(nmU ops ns e).length<=ns.length+1:=by
 unfold nmU; split<;>simp
theorem X5 (ops:List Int):∀(l:List Ex) (ns:List ByteArray),(nmL ops ns l).length<=ns.length+l.length
 | [],ns=>by simp [nmL]
 | e::l,ns=>by
   have h1:=X5 ops l (nmU ops ns e);have h2:=AGG ops ns e
   simp only[nmL,List.foldl_cons,List.length_cons] at h1|-
   omega
theorem ARS (ops:List Int)(ns:List ByteArray)(l r:List Ex):nmL ops ns (l++r)=nmL ops (nmL ops ns l) r:=List.foldl_append
structure NSt (h0:Hp) (c:Nat) (ns:List ByteArray) (v:AV) (h:Hp):Prop where
 cell:h[c]?=some (qF 1 [[v]])
 out:outG 1 qencStr h0 ns v h
 base:h0.length<=c
 ex:ext h0 h
abbrev Cn (c:Nat)(v:AV)(h:Hp)(v':AV)(h':Hp):Prop:=Ch c v .nilfn h v' .nilfn h'
theorem NSt.ne {b k:Nat}{row:List AV}(s:NSt h0 c ns v h)(hb:h[b]?=some (qF k [row]))(hr:k≠1∨∀x,row≠[.str x]):¬isB v b:=by
 intro hi;rcases s.out with⟨_,rfl⟩|⟨hne,o,_,rfl,ho⟩
 .exact hi
 .have e:o=b:=hi
  subst e;rw[ho] at hb
  injection Option.some.inj hb with e1 e2
  rcases hr with hr|hr
  .exact hr e1.symm
  .match ns,e2 with
   | [x],e2=>simp [qencStr] at e2; exact hr x e2.symm
theorem NSt.app {h0 h:Hp}{c:Nat}{ns:List ByteArray}{v:AV}(s:NSt h0 c ns v h)(x:Hp):NSt h0 c ns v (h++x):=⟨IK s.cell,s.out.app x,s.base,s.ex.app x⟩
theorem NSt.cne (s:NSt h0 c ns v h):¬isB v c:=by
 refine s.ne s.cell (.inr fun x e=>?_);rcases s.out with⟨_,rfl⟩|⟨_,o,_,rfl,_⟩<;>simp at e
theorem Cn.keep {b:Nat}{h':Hp}{v':AV}{x:ABlk}(hc:Cn c v h v' h')(hb:h[b]?=some x)(hne:b≠c)(hn:¬isB v b):h'[b]?=some x:=by
 rw[hc.get b (AB hb) hne hn (fun e=>e)]; exact hb
theorem vF (ops:List Int)(hops:ops.length<=1048576)(h0:Hp)(c ob:Nat)(s0:SM)(e:Ex)(h:Hp)(ns:List ByteArray)(v:AV)(S:NSt h0 c ns v h)(hob:h[ob]?=some (qF 1 [[.sl s0 1 (ops.map qencI)]]))(hn:ns.length<8388608):
  ACalls (En G) 289 [.agg (AY e),.ptr ob 0 0,.ptr c 0 0] h fun r h'=>r=.bool true∧∃v',Cn c v h v' h'∧NSt h0 c (nmU ops ns e) v' h':=by
 refine acT Tryz.func289 4 ?_;have S1:=S.app [qF 4 [AY e]];have hob1:(h++[qF 4 [AY e]])[ob]?=_:=AL hob;have hC1:Cn c v h v (h++[qF 4 [AY e]]):=Ch.app c v .nilfn h _;have ge:=AX h (qF 4 [AY e]);have hcl:=AB S.cell;refine AO @bxE ?_
 generalize h++[qF 4 [AY e]]=H at S1 hob1 hC1 ge|-
 have l0:BO jA H 3 (.ptr h.length 0 0)=some (.n e.op):=by rw[BH ag3 ge (row:=AY e) rfl,JS]
 have l2:BO jA H 9 (.ptr h.length 0 2)=some (.str e.name):=by rw[BH ag9 ge (row:=AY e) rfl,QT]
 refine AQ (FZ MO hob1) l0 ?_;refine(Rk.contains_rank G ops s0 e.op H hops).uu ?_
 have key:∀b1 b2:Bool,Rk.hasB ops e.op=b1->G7 ns e.name=b2->(b1 && !b2)=false->nmU ops ns e=ns:=fun b1 b2 e1 e2 e3=>by
  unfold nmU; rw[e1,e2,e3]; simp
 cases hb1:Rk.hasB ops e.op
 .refine Z ?_
  exact⟨trivial,v,hC1,by rw[key _ _ hb1 rfl rfl]; exact S1⟩
 refine AQ (FZ rK S1.cell) l2 ?_;refine(A0I G S1.out e.name U).uu ?_;cases hb2:G7 ns e.name
 .have hu:nmU ops ns e=ns++[e.name]:=by unfold nmU; rw[hb1,hb2]; rfl
  obtain⟨v',H',ha,ho,hk,hex,hle,hnew⟩:=S1.out.append (P:=jA) ALV sz9 ALE APD U hn S1.ex e.name;have ha':EP jA true H 121 121 v (.sl .full 1 [[.str e.name]])=some (v',H'):=ha;have hc':=hk c _ S1.cell S1.cne;have hcl2:=AB S1.cell
  have hac:IB v'=some [v']:=by
   rcases ho with⟨_,rfl⟩|⟨_,o,_,rfl,_⟩<;>rfl
  refine JL (FZ rK S1.cell) l2 APK ha' (TE AL1 hac hc') ?_;refine⟨trivial,v',hC1.trans ⟨BL hle,fun b hb hbc hbv _=>?_,fun b hb=>.inr (by rw[hnew b hb]; exact Nat.le_refl _),fun b hb=>hb.elim⟩,?_⟩
  .rw[zG,if_neg (fun e=>hbc e.symm),jI hb]
   exact hk b _ (jI hb) hbv
  .rw[hu]
   exact⟨CQ hc',ho.keep fun b hb=>by rw[zG,if_neg (fun e=>by have:=hnew b hb; omega)],S1.base,hex.set S1.base _⟩
 .refine Z ?_
  exact⟨trivial,v,hC1,by rw[key _ _ hb1 hb2 rfl]; exact S1⟩
theorem AM2 (ops:List Int)(ns:List ByteArray)(e:Ex):nmL ops ns (pre e)=nmL ops (nmU ops ns e) (E8 e.args):=by rw[pre_eq]; rfl
theorem AEB (ops:List Int)(hops:ops.length<=1048576)(h0:Hp)(c ob vb db:Nat)(s0:SM)(hv:vb≠c)(hd:db≠c)(hoc:ob≠c)(e:Ex):
  wt e<=1099511627776->∀(h:Hp) (ns:List ByteArray) (v:AV),NSt h0 c ns v h->h[ob]?=some (qF 1 [[.sl s0 1 (ops.map qencI)]])->ns.length+(pre e).length<=8388608 ->
   h[vb]?=some (qF 1 [[.fn (.func 289) [] [.ptr ob 0 0,.ptr c 0 0]]])->h[db]?=some (qF 1 [[.fn (.func 248) [] [.ptr vb 0 0,.ptr db 0 0]]]) ->
   ACalls (En G) 248 [.agg (AY e),.ptr vb 0 0,.ptr db 0 0] h fun r h'=>r=.bool true∧∃v',Cn c v h v' h'∧NSt h0 c (nmL ops ns (pre e)) v' h':=by
 induction e using Ex.induct with|h e ih=>?_
 intro hw h ns v S hob hlen hvb hdb;have hcl:=AB S.cell;have hal:e.args.length<=1099511627776:=by have:=UW e.args; have:=MH e; omega
 have hpe:(pre e).length=(E8 e.args).length+1:=by rw[pre_eq]; rfl
 have hfn:∀(k:FuncId) (a b:List AV) (x:ByteArray),[AV.fn (.func k) a b]≠[.str x]:=fun _ _ _ _ q=>by simp at q
 have hsl:∀(xs:List (List AV)) (x:ByteArray),[AV.sl s0 1 xs]≠[.str x]:=fun _ _ q=>by simp at q
 refine acT Tryz.func248 4 ?_;have S0:=S.app [qF 4 [AY e]];simp -implicitDefEqProofs only[vQ,CJ,TY,GK,qA,zF,↓reduceIte,jC,enP,bxE,FZ Sm.ag230 (AL hvb),ldE];refine(vF G ops hops h0 c ob s0 e _ ns v S0 (AL hob) U).mono ?_;rintro r h1 ⟨rfl,v1,hch,S1⟩;have hch0:Cn c v h v1 h1:=(Ch.app c v .nilfn h _).trans hch;have hb3:h1[h.length]?=some (qF 4 [AY e]):=hch.keep (AX _ _) U (S0.ne (AX _ _) (.inl DK));have hvb1:=hch0.keep hvb hv (S.ne hvb (.inr (hfn _ _ _)));have hdb1:=hch0.keep hdb hd (S.ne hdb (.inr (hfn _ _ _)));have hob1:=hch0.keep hob hoc (S.ne hob (.inr (hsl _)));have l3:BO jA h1 23 (.ptr h.length 0 3)=some (.sl e.m 4 (e.args.map AY)):=by rw[BH L6 hb3 (row:=AY e) rfl,XH]
 have hn1:=AGG ops ns e;refine AO l3 ?_
 refine BB (fun n F H=>∃j v',n+j=e.args.length∧F 1=.ptr vb 0 0∧F 2=.ptr db 0 0∧F 12=.sl e.m 4 (e.args.map AY)∧F 13=.n e.args.length∧F 14=.n (j:Nat)∧Cn c v h v' H∧NSt h0 c (nmL ops (nmU ops ns e) (E8 (e.args.take j))) v' H∧H[vb]?=some (qF 1 [[.fn (.func 289) [] [.ptr ob 0 0,.ptr c 0 0]]])∧H[db]?=some (qF 1 [[.fn (.func 248) [] [.ptr vb 0 0,.ptr db 0 0]]])∧H[ob]?=some (qF 1 [[.sl s0 1 (ops.map qencI)]])) e.args.length
  ⟨0,v1,A8,EX,EX,EX,EX,EX,hch0,S1,hvb1,hdb1,hob1⟩ ?_
 rintro n F H ⟨j,v',hj,f1,f2,f12,f13,f14,hC,SH,hvH,hdH,hoH⟩;refine AQ f13 f14 ?_;refine DU ?_ ?_<;>intro hj'
 .have hmem:e.args[j]∈e.args:=jH hj'
  have hsplit:E8 e.args=E8 (e.args.take j)++(pre e.args[j]++E8 (e.args.drop (j+1))):=by
   rw[<-List.append_assoc,<-LV _ _ hj',<-MX,List.take_append_drop]
  have hln:=X5 ops (E8 (e.args.take j)) (nmU ops ns e);have hls:(E8 e.args).length=(E8 (e.args.take j)).length+((pre e.args[j]).length+(E8 (e.args.drop (j+1))).length):=by rw[hsplit,jS,jS]
  simp -implicitDefEqProofs only[vQ,CJ,qA,zF,↓reduceIte,jC,enP,PK,Option.getD_none,f12,f14,CG hj',CY OZ I8 EF hj',QW,nD _ _ [.n 0,.n 0,.str ⟨#[]⟩,.sl .nil 0 []] rfl,f2,FZ Sm.ag230 (AL hdH),ldE];have SH1:=SH.app [qF 4 [AY e.args[j]]];refine(ih e.args[j] hmem (by have:=UU hmem; have:=MH e; omega) _ _ v' SH1 (AL hoH) U (AL hvH) (AL hdH)).mono ?_;rintro r h2 ⟨rfl,v2,hch2,S2⟩;have hch2':Cn c v' H v2 h2:=(Ch.app c v' .nilfn H _).trans hch2;have hvH2:=hch2'.keep hvH hv (SH.ne hvH (.inr (hfn _ _ _)));have hdH2:=hch2'.keep hdH hd (SH.ne hdH (.inr (hfn _ _ _)));have hoH2:=hch2'.keep hoH hoc (SH.ne hoH (.inr (hsl _)));refine MR f1 f2 f12 f13 f14 (CW j) ?_;refine⟨n-1,U,j+1,v2,U,trivial,trivial,trivial,trivial,rfl,hC.trans hch2',?_,hvH2,hdH2,hoH2⟩;rw[LV _ _ hj',ARS]; exact S2
 .refine Z ?_
  rw[List.take_of_length_le U,<-AM2] at SH;exact⟨trivial,v',hC,SH⟩
theorem ACK (ops:List Int)(hops:ops.length<=1048576)(h0:Hp)(c ob:Nat)(s0:SM)(hoc:ob≠c)(e:Ex)(hw:wt e<=1048576)(h:Hp)(ns:List ByteArray)(v:AV)(S:NSt h0 c ns v h)(hob:h[ob]?=some (qF 1 [[.sl s0 1 (ops.map qencI)]]))(hn:ns.length<=1048576):
  ACalls (En G) 170 [.agg (AY e),.fn (.func 289) [] [.ptr ob 0 0,.ptr c 0 0]] h fun _ h'=>∃v',Cn c v h v' h'∧NSt h0 c (nmL ops ns (pre e)) v' h':=by
 have hcl:=AB S.cell;have hol:=AB hob;refine acL Tryz.func170 [] ?_;generalize hfv:AV.fn (.func 289) [] [.ptr ob 0 0,.ptr c 0 0]=fv;have hbx:∀H:Hp,MP H fv=some (.ptr H.length 0 0,H++[qF 1 [[fv]]]):=fun H=>by rw[<-hfv]; rfl
 refine DI @bxE hbx AVG ?_;have g0:(h++[qF 4 [AY e]]++[qF 1 [[fv]]]++[qF 1 [[AV.nilfn]]])[(h++[qF 4 [AY e]]++[qF 1 [[fv]]]).length]?=some (qF 1 [[.nilfn]]):=AX _ _;simp -implicitDefEqProofs only[vQ,CJ,↓reduceIte,jC,enP,TE Sm.sz230 (AVM _ _ _) g0];have S3:=((S.app [qF 4 [AY e]]).app [qF 1 [[fv]]]).app [qF 1 [[AV.nilfn]]];have c3:Cn c v h v (h++[qF 4 [AY e]]++[qF 1 [[fv]]]++[qF 1 [[AV.nilfn]]]):=((Ch.app c v .nilfn h _).trans (Ch.app _ _ _ _ _)).trans (Ch.app _ _ _ _ _);have v3:(h++[qF 4 [AY e]]++[qF 1 [[fv]]]++[qF 1 [[AV.nilfn]]])[(h++[qF 4 [AY e]]).length]?=some (qF 1 [[fv]]):=AL (AX _ _);have e3:(h++[qF 4 [AY e]]++[qF 1 [[fv]]]++[qF 1 [[AV.nilfn]]])[h.length]?=some (qF 4 [AY e]):=AL (AL (AX _ _));have o3:(h++[qF 4 [AY e]]++[qF 1 [[fv]]]++[qF 1 [[AV.nilfn]]])[ob]?=some (qF 1 [[.sl s0 1 (ops.map qencI)]]):=AL (AL (AL hob));have hdl:(h++[qF 4 [AY e]]++[qF 1 [[fv]]]).length=h.length+2:=A8;have hvl:(h++[qF 4 [AY e]]).length=h.length+1:=A8
 generalize (h++[qF 4 [AY e]]++[qF 1 [[fv]]]).length=db at g0 hdl|-
 generalize (h++[qF 4 [AY e]]).length=vb at v3 hvl|-
 generalize h++[qF 4 [AY e]]++[qF 1 [[fv]]]++[qF 1 [[AV.nilfn]]]=H at g0 S3 c3 v3 e3 o3|-
 have hdn:¬isB v db:=S3.ne g0 (.inr fun x q=>by simp at q);generalize hH:H.set db (qF 1 [[AV.fn (.func 248) [] [.ptr vb 0 0,.ptr db 0 0]]])=H';have gd:H'[db]?=some (qF 1 [[.fn (.func 248) [] [.ptr vb 0 0,.ptr db 0 0]]]):=by rw[<-hH]; exact CQ g0
 have gv:H'[vb]?=some (qF 1 [[fv]]):=by rw[<-hH]; exact DC v3 U
 have ge:H'[h.length]?=some (qF 4 [AY e]):=by rw[<-hH]; exact DC e3 U
 have go:H'[ob]?=some (qF 1 [[.sl s0 1 (ops.map qencI)]]):=by rw[<-hH]; exact DC o3 U
 have hb0:=S.ex.le
 have S4:NSt h0 c ns v H':=by
  rw[<-hH];exact⟨DC S3.cell U,S3.out.keep fun b hb=>by rw[zG,if_neg (fun q=>hdn (by rw[q]; exact hb))],S3.base,S3.ex.set U _⟩
 have c4:Cn c v h v H':=by
  rw[<-hH];exact⟨by have:=c3.len; simpa using this,fun b hb hbc hbv hbu=>by rw[zG,if_neg U]; exact c3.get b hb hbc hbv hbu,fun _ q=>.inl q,fun _ q=>.inl q⟩
 simp -implicitDefEqProofs only[vQ,CJ,qA,zF,↓reduceIte,jC,enP,FZ Sm.ag230 gd,IW ge];rw[<-hfv] at gv;have hp:=VA e;refine(AEB G ops hops h0 c ob vb db s0 U U hoc e U H' ns v S4 go U gv gd).mono ?_;rintro r h' ⟨rfl,v',hch,S5⟩;refine AO @lG ?_;exact⟨v',c4.trans hch,S5⟩
theorem A1N (h:Hp):F9 jA h 121=some (.ptr h.length 0 0,h++[qF 1 [[.sl .nil 0 []]]]):=FC (row:=[.sl .nil 0 []]) AZ
theorem kK (ops:List Int)(hops:ops.length<=1048576)(s0:SM)(e:Ex)(hw:wt e<=1048576)(h:Hp):PCall (En G) 235 [.agg (AY e),.sl s0 1 (ops.map qencI)] h (.sl (nm (nmL ops [] (pre e))) 1 ((nmL ops [] (pre e)).map qencStr)):=by
 refine KT AWX ?_;refine acT Tryz.func235 4 ?_;have ge:=AL (x:=qF 1 [[.sl .nil 0 []]]) (AL (x:=qF 1 [[AV.sl s0 1 (ops.map qencI)]]) (AX h (qF 4 [AY e])));have go:=AL (x:=qF 1 [[.sl .nil 0 []]]) (AX (h++[qF 4 [AY e]]) (qF 1 [[AV.sl s0 1 (ops.map qencI)]]));have gc:=AX (h++[qF 4 [AY e]]++[qF 1 [[AV.sl s0 1 (ops.map qencI)]]]) (qF 1 [[.sl .nil 0 []]]);have hx:ext h (h++[qF 4 [AY e]]++[qF 1 [[AV.sl s0 1 (ops.map qencI)]]]++[qF 1 [[.sl .nil 0 []]]]):=(((ext.rfl' h).app _).app _).app _;have hol:(h++[qF 4 [AY e]]).length=h.length+1:=A8;have hcl:(h++[qF 4 [AY e]]++[qF 1 [[AV.sl s0 1 (ops.map qencI)]]]).length=h.length+2:=A8;refine DI @mA @bxE A1N ?_
 generalize h++[qF 4 [AY e]]++[qF 1 [[AV.sl s0 1 (ops.map qencI)]]]++[qF 1 [[.sl .nil 0 []]]]=H at ge go gc hx|-
 generalize (h++[qF 4 [AY e]]++[qF 1 [[AV.sl s0 1 (ops.map qencI)]]]).length=c at gc hcl|-
 generalize (h++[qF 4 [AY e]]).length=ob at go hol|-
 refine AO (IW ge) ?_;have S:NSt h c [] (.sl .nil 0 []) H:=⟨gc,outG.nil _ _ _ _,U,hx⟩;refine(ACK G ops hops h c ob s0 U e hw H [] _ S go A8).mono ?_;rintro r h' ⟨v',hch,S5⟩;refine AO (FZ rK S5.cell) ?_;exact⟨S5.ex,S5.out⟩
theorem A0Y (h:Hp)(a b:Int):C9 jA false h 32 2 [(0,.n a),(1,.n b)]=some (.sl .full 1 [[.n a],[.n b]],h):=AZ
theorem aD (e:Ex)(hw:wt e<=1048576)(h:Hp):PCall (En G) 156 [.agg (AY e)] h (.sl (nm (nmL [2] [] (pre e))) 1 ((nmL [2] [] (pre e)).map qencStr)):=by
 refine ACalls.pure0 rfl ?_;refine acT Tryz.func156 2 ?_;refine DI @bxE @ldE AER ?_;refine(kK G [2] DK .full e hw _).uu ?_;exact⟨trivial,_,rfl⟩
theorem XT (e:Ex)(hw:wt e<=1048576)(h:Hp):PCall (En G) 154 [.agg (AY e)] h (.sl (nm (nmL [3,24] [] (pre e))) 1 ((nmL [3,24] [] (pre e)).map qencStr)):=by
 refine ACalls.pure0 rfl ?_;refine acT Tryz.func154 2 ?_;refine DI @bxE @ldE @A0Y ?_;refine(kK G [3,24] DK .full e hw _).uu ?_;exact⟨trivial,_,rfl⟩
end Go.Proofs.YtiihpnicbekebaaGreatDoor.Xe
namespace Go.Proofs.YtiihpnicbekebaaGreatDoor.Xe
open Sm Bins Cov Wd Go.RowKit
def vH (l:List Sg)(op n:Int)(name:ByteArray)(vs:List Nat):Nat :=
 if op=1 then n.toNat%65536 else if op=2 then (OM l name).1 else if op=3 then (atG l name (vs.getD 0 0:Nat)).1 else if op=24 then sumTo l name 8 else opW op vs
mutual
def YK (l:List Sg):Ex->Nat
 | .mk op n name _ args=>vH l op n name (OD l args)
def OD (l:List Sg):List Ex->List Nat
 | []=>[]
 | e::es=>YK l e::OD l es
end
theorem AFN (l:List Sg)(e:Ex):YK l e=vH l e.op e.n e.name (OD l e.args):=by cases e; simp [YK,Ex.op,Ex.n,Ex.name,Ex.args]
theorem RN (l:List Sg):∀xs:List Ex,OD l xs=xs.map (YK l)
 | []=>by simp [OD]
 | e::es=>by simp [OD,RN l es]
theorem oG (l:List Sg)(xs:List Ex):(OD l xs).length=xs.length:=by rw[RN,List.length_map]
theorem ACN (l:List Sg)(xs:List Ex)(j:Nat)(hj:j<xs.length):OD l (xs.take (j+1))=OD l (xs.take j)++[YK l xs[j]]:=by
 rw[RN,RN,List.take_succ_eq_append_getElem hj,List.map_append]; rfl
theorem AQV (l:List Sg)(e:Ex):YK l e<65536:=by
 induction e using Ex.induct with|h e ih=>?_
 rw[AFN]
 have hv:∀x∈OD l e.args,x<65536:=by
  intro x hx;rw[RN] at hx;obtain⟨a,ha,rfl⟩:=qE.1 hx;exact ih a ha
 unfold vH;split
 .exact Nat.mod_lt _ U
 split
 .exact kZ _ _
 split
 .exact APY _ _ _
 split
 .exact vP _ _ _
 .exact AWD _ hv
theorem ALS (l:List Sg)(xs:List Ex):∀x∈OD l xs,x<65536:=by
 intro x hx;rw[RN] at hx;obtain⟨a,_,rfl⟩:=qE.1 hx;exact AQV l a
def knE (l:List Sg)(e:Ex):Bool:=if e.op=2 then (OM l e.name).2 else if e.op=3∨e.op=24 then (atG l e.name 0).2 else true
theorem node_ops {e:Ex}(h:HY e=0):(e.op=1->0<=e.n∧e.n<=65535)∧(e.op=3->e.args.length=1)∧(e.op≠1->e.op≠2->e.op≠3->e.op≠24->AQE e.op e.args.length):=by
 unfold HY at h
 have hO:badO e=false:=by
  cases hb:badO e
  .rfl
  .rw[hb] at h; simp at h
 have hN:V3 e=false:=by
  cases hb:V3 e
  .rfl
  .rw[hO,hb] at h; simp at h
 have hS:TB e=false:=by
  cases hb:TB e
  .rfl
  .rw[hO,hN,hb] at h; simp at h
 have hops:TS e.op e.args.length=true:=by
  unfold TB at hS;rw[Bool.or_eq_false_iff] at hS;simpa using hS.2
 have h1:1<=e.op∧e.op<=25:=by unfold badO at hO; simp at hO; omega
 refine⟨fun h1=>?_,fun h3=>?_,fun n1 n2 n3 n24=>⟨fun h22=>?_,fun h23=>?_,fun n22 n23=>?_⟩⟩
 .unfold V3 at hN; simp [h1] at hN; omega
 .unfold TS at hops; rw[h3] at hops; simp [arity] at hops; omega
 .unfold TS at hops; rw[h22] at hops; simp [arity] at hops; omega
 .unfold TS at hops; rw[h23] at hops; simp at hops; omega
 .unfold TS at hops
  rw[if_neg (BL n23)] at hops
  have h5:arity e.op=1∨arity e.op=2:=by
   by_cases hq:e.op=3∨e.op=4∨e.op=5∨e.op=6∨e.op=25
   .left; unfold arity; rw[if_neg U,if_neg U,if_pos hq]
   .right; unfold arity; rw[if_neg U,if_neg U,if_neg hq,if_neg n22,if_neg n23]
  have h6:((e.args.length:Nat):Int)=arity e.op:=BL hops;omega
theorem str_eq {a b:ByteArray}(h:(a.toList==b.toList)=true):a=b:=by
 rw[ByteArray.toList_eq,ByteArray.toList_eq] at h;exact ByteArray.ext (Array.toList_inj.1 (beq_iff_eq.1 h))
theorem ARR (P:ByteArray->Bool)(ops:List Int)(ns:List ByteArray)(e:Ex):(nmU ops ns e).all P=(ns.all P&&(!Rk.hasB ops e.op||P e.name)):=by
 unfold nmU;cases hb:Rk.hasB ops e.op
 .simp
 cases hs:G7 ns e.name
 .simp
 .simp
  intro ha;unfold G7 at hs;rw[List.any_eq_true] at hs;obtain⟨u,hu,he⟩:=hs;rw[str_eq he]; exact ha u hu
theorem aY (P:ByteArray->Bool)(ops:List Int):∀(xs:List Ex) (ns:List ByteArray),(nmL ops ns xs).all P=(ns.all P&&xs.all fun e => !Rk.hasB ops e.op||P e.name)
 | [],ns=>by simp [nmL]
 | e::xs,ns=>by
   have:=aY P ops xs (nmU ops ns e)
   simp only[nmL,List.foldl_cons,List.all_cons] at this|-
   rw[this,ARR,Bool.and_assoc]
theorem AJT (l:List Sg)(xs:List Ex):((nmL [2] [] xs).all (fun n=>(OM l n).2)&&(nmL [3,24] [] xs).all fun n=>(atG l n 0).2)=xs.all (knE l):=by
 rw[aY,aY,Bool.eq_iff_iff];simp only[List.all_nil,wM,Bool.and_eq_true,List.all_eq_true];constructor
 .rintro⟨h1,h2⟩ x hx
  have a:=h1 x hx;have b:=h2 x hx;unfold knE;unfold Rk.hasB at a b;by_cases e2:x.op=2
  .rw[if_pos e2]; simpa [e2] using a
  by_cases e3:x.op=3∨x.op=24
  .rw[if_neg e2,if_pos e3]; rcases e3 with e3|e3<;>simpa [e3] using b
  .rw[if_neg e2,if_neg e3]
 .intro h
  refine⟨fun x hx=>?_,fun x hx=>?_⟩
  .have a:=h x hx
   unfold knE at a;unfold Rk.hasB;by_cases e2:x.op=2
   .rw[if_pos e2] at a; simp [e2,a]
   .have:¬2=x.op:=fun q=>e2 q.symm
    simp [this]
  .have a:=h x hx
   unfold knE at a;unfold Rk.hasB;by_cases e3:x.op=3∨x.op=24
   .have e2:¬x.op=2:=U
    rw[if_neg e2,if_pos e3] at a; simp [a]
   .have e4:¬3=x.op:=fun q=>e3 (.inl q.symm)
    have e5:¬24=x.op:=fun q=>e3 (.inr q.symm)
    simp [e4,e5]
theorem AB5 {α:Type}(P:α->Bool)(xs:List α)(k:Nat)(hk:k<xs.length):(xs.drop k).all P=(P xs[k]&&(xs.drop (k+1)).all P):=by
 rw[List.drop_eq_getElem_cons hk]; rfl
theorem AGH (ops:List Int):∀(xs:List Ex) (ns:List ByteArray) (n:ByteArray),n∈nmL ops ns xs->n∈ns∨∃x∈xs,n=x.name
 | [],ns,n,h=>.inl h
 | e::xs,ns,n,h=>by
   rcases AGH ops xs (nmU ops ns e) n h with h1|⟨x,hx,hn⟩
   .unfold nmU at h1
    split at h1
    .rcases List.mem_append.1 h1 with h2|h2
     .exact .inl h2
     .exact .inr ⟨e,A8,BL h2⟩
    .exact .inl h1
   .exact .inr ⟨x,List.mem_cons_of_mem _ hx,hn⟩
section
variable (G:Nat->AV)
theorem known_prog (l:List Sg)(m:SM)(e:Ex)(h:Hp)(hl:l.length<=1099511627776)(hw:wt e<=1048576):PCall (En G) 225 [.agg [.sl m 2 (l.map FY)],.agg (AY e)] h (.bool ((pre e).all (knE l))):=by
 refine ACalls.pure0 rfl ?_;rw[<-AJT];have hpl:=VA e;have hn1:=X5 [2] (pre e) [];have hn2:=X5 [3,24] (pre e) []
 have hm2:∀n∈nmL [3,24] [] (pre e),n.size<=1048576:=fun n hn=>by
  rcases AGH _ _ _ n hn with h1|⟨x,hx,rfl⟩
  .cases h1
  .have:=xZ hx; omega
 have hN:=aD G e hw;have hA:=XT G e hw;simp only[List.length_nil,Nat.zero_add] at hn1 hn2
 generalize nmL [2] [] (pre e)=ns at hn1 hN|-
 generalize nmL [3,24] [] (pre e)=ars at hn2 hA hm2|-
 refine acT Tryz.func225 4 ?_;have gs:=AL (x:=qF 4 [AY e]) (AX h (qF 1 [[.sl m 2 (l.map FY)]]));have ge:=AX (h++[qF 1 [[.sl m 2 (l.map FY)]]]) (qF 4 [AY e]);have hx:ext h (h++[qF 1 [[.sl m 2 (l.map FY)]]]++[qF 4 [AY e]]):=((ext.rfl' h).app _).app _;refine AQ (ABU h (.sl m 2 (l.map FY)) rfl) @bxE ?_
 generalize h++[qF 1 [[.sl m 2 (l.map FY)]]]++[qF 4 [AY e]]=H at gs ge hx|-
 generalize (h++[qF 1 [[.sl m 2 (l.map FY)]]]).length=eb at ge|-
 refine AO (IW ge) ?_;refine(hN H).uu ?_;refine D9 0 (fun F H'=>F 2=.ptr h.length 0 0∧F 3=.ptr eb 0 0∧H'=H∧ns.all (fun n=>(OM l n).2)=true) (fun F H'=>F 4=.bool false∧H'=H∧ns.all (fun n=>(OM l n).2)=false) ?_ ?_ ?_
 .refine BB (fun k F H'=>∃j,k+j=ns.length∧F 2=.ptr h.length 0 0∧F 3=.ptr eb 0 0∧F 14=.sl (nm ns) 1 (ns.map qencStr)∧F 15=.n (ns.length:Nat)∧F 16=.n (j:Nat)∧H'=H∧ns.all (fun n=>(OM l n).2)=(ns.drop j).all fun n=>(OM l n).2) ns.length ⟨0,A8,AC,AC,AC,AC,AC,rfl,rfl⟩ ?_
  rintro k F H' ⟨j,hj,f2,f3,f14,f15,f16,rfl,hall⟩;refine AQ f15 f16 ?_;refine DU ?_ ?_<;>intro hj'
  .rw[AB5 _ ns j hj'] at hall
   simp -implicitDefEqProofs only[vQ,CJ,↓reduceIte,jC,enP,Y0,f2,f14,f16,CG hj',BP ag9 hj',encStr0,YZ gs];refine(dI G l m _ H' hl).use ?_;unfold YW;refine Z ?_;cases hk:(OM l ns[j]).2
   .refine Z ?_
    exact⟨trivial,trivial,by rw[hall,hk]; rfl⟩
   .refine MR f2 f3 f14 f15 f16 (CW j) ?_
    exact⟨k-1,U,j+1,U,A7,A7,A7,A7,A7,trivial,by rw[hall,hk]; rfl⟩
  .refine Z ?_
   exact⟨f2,f3,trivial,by rw[hall,jR U]; rfl⟩
 .rintro F H' ⟨f2,f3,rfl,hall⟩
  rw[hall,wM];refine AQ f3 (IW ge) ?_;refine(hA H').uu ?_;refine BB (fun k F' H2=>∃j,k+j=ars.length∧F' 2=.ptr h.length 0 0∧F' 30=.sl (nm ars) 1 (ars.map qencStr)∧F' 31=.n (ars.length:Nat)∧F' 32=.n (j:Nat)∧H2=H'∧ars.all (fun n=>(atG l n 0).2)=(ars.drop j).all fun n=>(atG l n 0).2) ars.length ⟨0,A8,DW f2,AC,AC,AC,rfl,rfl⟩ ?_;rintro k F' H2 ⟨j,hj,g2,g30,g31,g32,rfl,hall2⟩;refine AQ g31 g32 ?_;refine DU ?_ ?_<;>intro hj'
  .rw[AB5 _ ars j hj'] at hall2
   simp -implicitDefEqProofs only[vQ,CJ,↓reduceIte,jC,enP,Y0,g2,g30,g32,CG hj',BP ag9 hj',encStr0,YZ gs];refine(uP G l m _ 0 H2 hl (hm2 _ (jH hj'))).use ?_;unfold YW;refine Z ?_;cases hk:(atG l ars[j] 0).2
   .refine Z ?_
    exact⟨by rw[hall2,hk]; rfl,hx⟩
   .refine JL g2 g30 g31 g32 (CW j) ?_
    exact⟨k-1,U,j+1,U,A7,A7,A7,A7,trivial,by rw[hall2,hk]; rfl⟩
  .refine Z ?_
   exact⟨by rw[hall2,jR U]; rfl,hx⟩
 .rintro F H' ⟨f4,rfl,hall⟩
  refine AO f4 ?_;exact⟨by rw[hall]; rfl,hx⟩
theorem vG (l:List Sg)(m:SM)(hl:l.length<=1099511627776)(e:Ex):wt e<=1048576->(∀x∈pre e,HY x=0)->∀h:Hp,PCall (En G) 226 [.agg [.sl m 2 (l.map FY)],.agg (AY e)] h (.n (YK l e:Nat)):=by
 induction e using Ex.induct with|h e ih=>?_
 intro hw hval h;have hal:e.args.length<=1048576:=by have:=UW e.args; have:=MH e; omega
 have hnz:e.name.size<=1048576:=by have:=MH e; omega
 obtain⟨o1,o3,oo⟩:=node_ops (hval e (by rw[pre_eq]; simp));refine ACalls.pure0 rfl ?_;refine acT Tryz.func226 4 ?_;have gs:=AL (x:=qF 4 [AY e]) (AX h (qF 1 [[.sl m 2 (l.map FY)]]));have ge:=AX (h++[qF 1 [[.sl m 2 (l.map FY)]]]) (qF 4 [AY e]);have hx:ext h (h++[qF 1 [[.sl m 2 (l.map FY)]]]++[qF 4 [AY e]]):=((ext.rfl' h).app _).app _;refine AQ (ABU h (.sl m 2 (l.map FY)) rfl) @bxE ?_
 generalize h++[qF 1 [[.sl m 2 (l.map FY)]]]++[qF 4 [AY e]]=H1 at gs ge hx|-
 generalize (h++[qF 1 [[.sl m 2 (l.map FY)]]]).length=eb at ge|-
 have l3:BO jA H1 23 (.ptr eb 0 3)=some (.sl e.m 4 (e.args.map AY)):=by rw[BH L6 ge (row:=AY e) rfl,XH]
 refine AO l3 ?_;refine D9 0 (fun F H=>∃v,F 2=.ptr h.length 0 0∧F 3=.ptr eb 0 0∧F 5=v∧ext H1 H∧outG 1 J5 H1 (OD l e.args) v H) (fun _ _=>False) ?_ ?_ (fun _ _ hh=>hh.elim)
 .refine BB (fun k F H=>∃j v,k+j=e.args.length∧F 2=.ptr h.length 0 0∧F 3=.ptr eb 0 0∧F 5=v∧F 13=.sl e.m 4 (e.args.map AY)∧F 14=.n (e.args.length:Nat)∧F 15=.n (j:Nat)∧ext H1 H∧outG 1 J5 H1 (OD l (e.args.take j)) v H) e.args.length
   ⟨0,.sl .nil 0 [],A8,AC,AC,AC,AC,AC,AC,ext.rfl' H1,outG.nil _ _ _ _⟩ ?_
  rintro k F H ⟨j,v,hj,f2,f3,f5,f13,f14,f15,hxH,ho⟩;refine AQ f14 f15 ?_;refine DU ?_ ?_<;>intro hj'
  .have hmem:e.args[j]∈e.args:=jH hj'
   have ho1:=ho.app [qF 4 [AY e.args[j]]];have hx1:=hxH.app [qF 4 [AY e.args[j]]];have htl:(OD l (e.args.take j)).length<8388608:=by rw[oG]; simp; omega
   obtain⟨v',H',ha,ho',_,hx',_,_⟩:=ho1.append (P:=jA) fP sz3 AH6 uN U htl hx1 (YK l e.args[j]);have ha':EP jA true (H++[qF 4 [AY e.args[j]]]) 32 32 v (.sl .full 1 [[.n ((YK l e.args[j]:Nat):Int)]])=some (v',H'):=ha;simp -implicitDefEqProofs only[vQ,CJ,↓reduceIte,jC,enP,PK,Option.getD_none,f13,f15,CG hj',CY OZ I8 EF hj',QW,nD _ _ [.n 0,.n 0,.str ⟨#[]⟩,.sl .nil 0 []] rfl,f2,f5,YZ (EJ hx1 gs),ldE];refine(ih e.args[j] hmem (by have:=UU hmem; have:=MH e; omega) (fun x hx=>hval x (by rw[pre_eq]; exact List.mem_cons_of_mem _ (X0 hmem x hx))) _).use ?_;refine VW f5 AER ha' f2 f3 f13 f14 f15 (CW j) ?_;exact⟨k-1,U,j+1,v',U,A7,A7,A7,A7,A7,A7,hx',by rw[ACN _ _ _ hj']; exact ho'⟩
  .rw[List.take_of_length_le U] at ho
   refine Z ?_;exact⟨v,f2,f3,f5,hxH,ho⟩
 .rintro F H ⟨v,f2,f3,f5,hxH,ho⟩
  have gsH:=EJ hxH gs;have geH:=EJ hxH ge;have hxx:=hx.trans hxH;have l0:BO jA H 3 (.ptr eb 0 0)=some (.n e.op):=by rw[BH ag3 geH (row:=AY e) rfl,JS]
  have l1:BO jA H 3 (.ptr eb 0 1)=some (.n e.n):=by rw[BH ag3 geH (row:=AY e) rfl,bS]
  have l2:BO jA H 9 (.ptr eb 0 2)=some (.str e.name):=by rw[BH ag9 geH (row:=AY e) rfl,QT]
  have hvl:=oG l e.args;rw[AFN];refine AQ f3 l0 ?_;by_cases e1:e.op=1
  .have c1:(e.op==1)=true:=BL e1
   refine DI c1 f3 l1 ?_;have:=o1 e1;exact⟨by unfold vH; rw[if_pos e1]; congr 1; omega,hxx⟩
  have c1:(e.op==1)=false:=BL e1;by_cases e2:e.op=2
  .have c2:(e.op==2)=true:=BL e2
   refine MR c1 c2 f2 f3 l2 (YZ gsH) ?_;refine(dI G l m _ H hl).use ?_;unfold YW;refine Z ?_;exact⟨by unfold vH; rw[if_neg e1,if_pos e2],hxx⟩
  have c2:(e.op==2)=false:=BL e2;by_cases e3:e.op=3
  .have c3:(e.op==3)=true:=BL e3
   have hl1:=o3 e3
   obtain⟨o,rfl,hob⟩:∃o,v=.own o 0 1∧H[o]?=some (qF 1 ((OD l e.args).map J5)):=by
    rcases ho with⟨h0,_⟩|⟨_,o,_,rfl,hb⟩
    .rw[h0] at hvl; simp at hvl; omega
    .exact⟨o,by rw[hvl,hl1],hb⟩
   have hlen:0<(OD l e.args).length:=U;have i0:JM 1 H (.own o 0 1) (.n 0)=some (.ptr o 0 0):=IG (n:=0) hob DK
   have d0:BO jA H 3 (.ptr o 0 0)=some (.n ((OD l e.args).getD 0 0:Nat)):=by
    rw[BH ag3 hob (row:=J5 (OD l e.args)[0]) (row_map hlen),List.getD_eq_getElem?_getD,List.getElem?_eq_getElem hlen]; rfl
   refine DI c1 c2 c3 ?_;refine DJ AZ ?_;refine NZ f2 f3 f5 l2 (YZ gsH) i0 d0 ?_;refine⟨_,uP G l m _ _ H hl hnz,?_⟩;unfold YW;refine Z ?_;exact⟨by unfold vH; rw[if_neg e1,if_neg e2,if_pos e3],hxx⟩
  have c3:(e.op==3)=false:=BL e3;by_cases e24:e.op=24
  .have c24:(e.op==24)=true:=BL e24
   refine QZ c1 c2 c3 c24 f2 f3 l2 (YZ gsH) ?_;refine(AL3 G l m _ H hl hnz).uu ?_;exact⟨by unfold vH; rw[if_neg e1,if_neg e2,if_neg e3,if_pos e24],hxx⟩
  have c24:(e.op==24)=false:=BL e24;have hok:=oo e1 e2 e3 e24;have hok':AQE e.op (OD l e.args).length:=by rw[hvl]; exact hok
  obtain⟨o,rfl,hob⟩:∃o,v=.own o 0 (OD l e.args).length∧H[o]?=some (qF 1 ((OD l e.args).map J5)):=by
   rcases ho with⟨h0,_⟩|⟨_,o,_,rfl,hb⟩
   .exfalso
    rw[h0] at hok';obtain⟨a,b,c⟩:=hok';by_cases q:e.op=22
    .have:=a q; simp at this
    by_cases q':e.op=23
    .have:=b q'; simp at this
    .have:=c q q'; simp at this
   .exact⟨o,rfl,hb⟩
  refine NZ c1 c2 c3 c24 f3 l0 f5 ?_;refine(AJF G e.op _ o H hob (ALS l _) U hok').uu ?_;exact⟨by unfold vH; rw[if_neg e1,if_neg e2,if_neg e3,if_neg e24],hxx⟩
end
theorem AOS {xs:List Ex}(h:errs xs=0):∀x∈xs,HY x=0:=by
 induction xs with
 | nil=>intro x hx; cases hx
 | cons y ys ih =>
   have h1:ys.foldl (fun z e=>if z=0 then HY e else z) (HY y)=0:=h
   have hy:HY y=0:=by
    rcases Classical.em (HY y=0) with q|q
    .exact q
    .rw[uE _ _ q] at h1; exact h1
   rw[hy] at h1;intro x hx;rcases zK.1 hx with rfl|hx
   .exact hy
   .exact ih h1 x hx
theorem dO {e:Ex}(h:exE e=0):∀x∈pre e,HY x=0:=by
 unfold exE at h;split at h
 .cases h
 .exact AOS h
def evE (l:List Sg)(e:Ex):Nat×Int:=if exE e≠0 then (0,1) else if(pre e).all (knE l)=true then (YK l e,0) else (0,7)
def evV (p:Nat×Int):AV:=.tup [.n (p.1:Nat),.n p.2]
theorem AW5 (p:Nat×Int)(n:Nat)(H:Hp):FI n H 2 (evV p)=evV p:=rfl
theorem A1L (h:Hp):F9 jA h 277=some (.ptr h.length 0 0,h++[qF 1 [[.sl .nil 0 []]]]):=FC (row:=[.sl .nil 0 []]) AZ
theorem A1D (s:SM)(k:Nat)(xs:List (List AV)):IR jA 277 [(0,.sl s k xs)]=some (.agg [.sl s k xs]):=AZ
theorem AYN (h:Hp)(s:SM)(k:Nat)(xs:List (List AV)):DX jA (h++[qF 1 [[.sl .nil 0 []]]]) 277 (.ptr h.length 0 0) (.agg [.sl s k xs])=some (h++[qF 1 [[.sl s k xs]]]):=by
 rw[IY (cs:=[.sl s k xs]) (row:=[.sl .nil 0 []]) rfl AUI (AX _ _) (by exact Nat.le_refl 1),KH];rfl
section
variable (G:Nat->AV)
theorem rS (hG:GOk G)(l:List Sg)(m:SM)(e:Ex)(h:Hp)(hl:l.length<=1099511627776)(hw:wt e<=1048576):PCall (En G) 143 [.agg (AY e),.sl m 2 (l.map FY)] h (evV (evE l e)):=by
 refine UC 2 (AW5 _) ?_;refine acL Tryz.func143 [.tmp 4,.tmp 5] ?_;have ge:=AL (x:=qF 1 [[.sl m 2 (l.map FY)]]) (AX h (qF 4 [AY e]));have gs:=AX (h++[qF 4 [AY e]]) (qF 1 [[.sl m 2 (l.map FY)]]);have hx:ext h (h++[qF 4 [AY e]]++[qF 1 [[.sl m 2 (l.map FY)]]]):=((ext.rfl' h).app _).app _;refine EO @bxE A1D A1L AYN ?_
 generalize h++[qF 4 [AY e]]++[qF 1 [[.sl m 2 (l.map FY)]]]=H at ge gs hx|-
 generalize (h++[qF 4 [AY e]]).length=sb at gs|-
 refine AO (IW ge) ?_;refine(NT G hG e H hw).uu ?_;cases hv:(exE e==0)
 .have hne:exE e≠0:=BL hv
  simp -implicitDefEqProofs only[vQ,N7,rC,AD8,NK,CJ,↓reduceIte,jC,bne,hv];exact⟨by unfold evE; rw[if_pos hne]; rfl,hx⟩
 have h0:exE e=0:=BL hv;simp -implicitDefEqProofs only[vQ,CJ,↓reduceIte,jC,Bool.not_true,enP,bne,hv,IW ge,YZ gs];refine(known_prog G l m e H hl hw).uu ?_;cases hk:(pre e).all (knE l)
 .refine Z ?_
  exact⟨by unfold evE; rw[if_neg (BL h0),if_neg (by rw[hk]; decide)]; rfl,hx⟩
 refine AQ (IW ge) (YZ gs) ?_;refine(vG G l m hl e hw (dO h0) H).uu ?_;exact⟨by unfold evE; rw[if_neg (BL h0),if_pos hk]; rfl,hx⟩
theorem WJ:∀xs:List Ex,xs.length<=(E8 xs).length
 | []=>by simp [E8]
 | x::xs=>by
   have:=WJ xs;simp only[E8,jS,List.length_cons,pre_eq x]; omega
theorem QJ {a:Ex}:∀ {xs:List Ex},a∈xs->(pre a).length<=(E8 xs).length
 | x::xs,h=>by
   simp only[E8,jS];rcases zK.1 h with rfl|h
   .omega
   .have:=QJ h; omega
end
end Go.Proofs.YtiihpnicbekebaaGreatDoor.Xe
namespace Go.Proofs.YtiihpnicbekebaaGreatDoor.Bd
open Sm Bins Cov Xe Go.RowKit
variable {h:Hp} {i j k n:Nat} {a s:ByteArray} {x:Int} (G:Nat->AV )
structure Vr where
 name:ByteArray
 width:Int
 mode:Int
 value:Int
def encV (v:Vr):List AV:=[.str v.name,.n v.width,.n v.mode,.n v.value]
theorem encV_len (v:Vr):(encV v).length=4:=rfl
theorem encV0 (v:Vr):(encV v)[0]?=some (.str v.name):=rfl
theorem encV1 (v:Vr):(encV v)[1]?=some (.n v.width):=rfl
theorem encV2 (v:Vr):(encV v)[2]?=some (.n v.mode):=rfl
theorem encV3 (v:Vr):(encV v)[3]?=some (.n v.value):=rfl
structure Wg where
 lo:Int
 hi:Int
 w:Int
 each:Bool
def IZ (x:Wg):List AV:=[.n x.lo,.n x.hi,.n x.w,.bool x.each]
theorem dR (x:Wg):(IZ x).length=4:=rfl
structure Ds where
 var:Int
 wm:SM
 ws:List Wg
def IJ (d:Ds):List AV:=[.n d.var,.sl d.wm 4 (d.ws.map IZ)]
theorem QU (d:Ds):(IJ d).length=2:=rfl
structure Gp where
 m:SM
 l:List Int
def QR (g:Gp):List AV:=[.sl g.m 1 (g.l.map qencI)]
structure Pr where
 vm:SM
 vars:List Vr
 hm:SM
 hard:List Ex
 sm:SM
 soft:List Ex
 dm:SM
 dists:List Ds
 gm:SM
 groups:List Gp
def CX (p:Pr):List AV:=[.sl p.vm 4 (p.vars.map encV),.sl p.hm 4 (p.hard.map AY),.sl p.sm 4 (p.soft.map AY),.sl p.dm 2 (p.dists.map IJ),.sl p.gm 1 (p.groups.map QR)]
theorem NV (p:Pr):(CX p).length=5:=rfl
theorem bxV (h:Hp)(v:Vr):MP h (.agg (encV v))=some (.ptr h.length 0 0,h++[qF 4 [encV v]]):=rfl
theorem A0U (h:Hp)(v:Wg):MP h (.agg (IZ v))=some (.ptr h.length 0 0,h++[qF 4 [IZ v]]):=rfl
theorem bxD (h:Hp)(v:Ds):MP h (.agg (IJ v))=some (.ptr h.length 0 0,h++[qF 2 [IJ v]]):=rfl
theorem SS (h:Hp)(p:Pr):MP h (.agg (CX p))=some (.ptr h.length 0 0,h++[qF 5 [CX p]]):=rfl
def NR {α:Type}(p:α->Bool):List α->Int
 | [] => -1
 | x::r=>if p x=true then 0 else if NR p r<0 then -1 else NR p r+1
theorem QO {α:Type}(p:α->Bool):∀(xs:List α) (k:Nat) (hk:k<xs.length),(∀(j:Nat) (hj:j<k),p (xs[j]'U)=false)->p xs[k]=true->NR p xs=k
 | x::r,0,_,_,h=>by
   have h:p x=true:=h;simp [NR,h]
 | x::r,k+1,hk,hb,h=>by
   have h0:p x=false:=hb 0 U;have ih:=QO p r k (BL hk) (fun j hj=>hb (j+1) U) h;simp only[NR,h0,ih,Bool.false_eq_true,if_false];rw[if_neg U]; omega
theorem PU {α:Type}(p:α->Bool):∀(xs:List α),(∀(j:Nat) (hj:j<xs.length),p xs[j]=false)->NR p xs = -1
 | [],_=>rfl
 | x::r,hb=>by
   have h0:p x=false:=hb 0 A8;have ih:=PU p r (fun j hj=>hb (j+1) (BL hj));simp [NR,h0,ih]
theorem QP {α:Type}(p:α->Bool):∀xs:List α,decide (NR p xs≥0)=xs.any p
 | []=>rfl
 | x::r=>by
   have ih:=QP p r;rw[List.any_cons,<-ih];rcases Bool.eq_false_or_eq_true (p x) with hx|hx
   .have h1:NR p (x::r)=0:=by simp [NR,hx]
    rw[h1,hx]; rfl
   .have h1:NR p (x::r)=if NR p r<0 then -1 else NR p r+1:=by simp [NR,hx]
    rw[h1,hx,wL];by_cases h:NR p r<0
    .rw[if_pos h,decide_eq_false U,decide_eq_false U]
    .rw[if_neg h,decide_eq_true U,decide_eq_true U]
theorem WY {α:Type}(p:α->Bool):∀(xs:List α),0<=NR p xs->∃k,∃hk:k<xs.length,NR p xs=(k:Nat)∧p xs[k]=true∧∀(j:Nat) (hj:j<k),p (xs[j]'U)=false
 | [],h=>by simp [NR] at h
 | x::r,h=>by
   cases hx:p x with
   | true=>exact⟨0,A8,by simp [NR,hx],hx,fun j hj=>absurd hj U⟩
   | false =>
     have h1:NR p (x::r)=if NR p r<0 then -1 else NR p r+1:=by simp [NR,hx]
     rw[h1] at h|-
     split at h
     .omega
     .rename_i hn
      rw[if_neg hn];obtain⟨k,hk,e1,e2,e3⟩:=WY p r U;refine⟨k+1,BL hk,U,e2,fun j hj=>?_⟩
      cases j with
      | zero=>exact hx
      | succ j=>exact e3 j U
theorem dF {α:Type}(p:α->Bool)(xs:List α)(h:NR p xs<0):∀x∈xs,p x=false:=by
 intro x hx;have:=QP p xs;rw[decide_eq_false U] at this;have:=qM.1 this.symm x hx;simpa using this
theorem pJ (xs:List Vr)(m:SM)(fid:FuncId)(caps:List AV)(p:Vr->Bool)(h:Hp)(hn:xs.length<=1099511627776)(hf:∀x∈xs,PCall (En G) fid ([.agg (encV x)]++caps) h (.bool (p x))):
  PCall (En G) 101 [.sl m 4 (xs.map encV),.fn (.func fid) [] caps] h (.n (NR p xs)):=by
 refine acT Tryz.func101 4 ?_;refine Z ?_;refine BB (fun n F H=>∃k,n+k=xs.length∧(∀(j:Nat) (hj:j<k) (hl:j<xs.length),p xs[j]=false)∧F 0=.sl m 4 (xs.map encV)∧F 1=.fn (.func fid) [] caps∧F 7=.n (xs.length:Nat)∧F 8=.n (k:Nat)∧H=h) xs.length ⟨0,A8,fun j hj=>absurd hj U,AC,AC,AC,AC,rfl⟩ ?_;rintro n F H ⟨k,hk,hb,f0,f1,f7,f8,rfl⟩;refine AQ f7 f8 ?_;refine BG ?_ ?_<;>intro hc
 .have hk':k<xs.length:=BL hc
  simp -implicitDefEqProofs only[vQ,CJ,qA,zF,↓reduceIte,jC,enP,dE,f0,f1,f8,CG hk',CY AVI vM encV_len hk'];refine(hf _ (jH hk')).uu ?_;refine BG ?_ ?_<;>intro hp
  .refine AO f8 ?_
   exact⟨by rw[QO p xs k hk' (fun j hj=>hb j hj U) hp],trivial⟩
  .refine AQ f8 (CW k) ?_
   refine⟨n-1,U,k+1,U,fun j hj hl=>?_,A7,A7,A7,rfl,trivial⟩;rcases jZ j k with h1|h1
   .exact hb j h1 hl
   .obtain rfl:j=k:=U
    exact hp
 .refine Z ?_
  have hk':¬k<xs.length:=BL hc;exact⟨by rw[PU p xs fun j hj=>hb j U hj],trivial⟩
theorem AGU (xs:List Vr)(m:SM)(fid:FuncId)(caps:List AV)(p:Vr->Bool)(h:Hp)(hn:xs.length<=1099511627776)(hf:∀x∈xs,PCall (En G) fid ([.agg (encV x)]++caps) h (.bool (p x))):
  PCall (En G) 151 [.sl m 4 (xs.map encV),.fn (.func fid) [] caps] h (.bool (xs.any p)):=by
 refine acT Tryz.func151 4 ?_;refine Z ?_;refine(pJ G xs m fid caps p h hn hf).use ?_;refine AO @QP ?_;exact G8
theorem ADX (xs:List Ds)(m:SM)(fid:FuncId)(caps:List AV)(p:Ds->Bool)(h:Hp)(hn:xs.length<=1099511627776)(hf:∀x∈xs,PCall (En G) fid ([.agg (IJ x)]++caps) h (.bool (p x))):
  PCall (En G) 237 [.sl m 2 (xs.map IJ),.fn (.func fid) [] caps] h (.n (NR p xs)):=by
 refine acT Tryz.func237 4 ?_;refine Z ?_;refine BB (fun n F H=>∃k,n+k=xs.length∧(∀(j:Nat) (hj:j<k) (hl:j<xs.length),p xs[j]=false)∧F 0=.sl m 2 (xs.map IJ)∧F 1=.fn (.func fid) [] caps∧F 7=.n (xs.length:Nat)∧F 8=.n (k:Nat)∧H=h) xs.length ⟨0,A8,fun j hj=>absurd hj U,AC,AC,AC,AC,rfl⟩ ?_;rintro n F H ⟨k,hk,hb,f0,f1,f7,f8,rfl⟩;refine AQ f7 f8 ?_;refine BG ?_ ?_<;>intro hc
 .have hk':k<xs.length:=BL hc
  simp -implicitDefEqProofs only[vQ,CJ,qA,zF,↓reduceIte,jC,enP,AJW,f0,f1,f8,CG hk',CY AHW eO QU hk'];refine(hf _ (jH hk')).uu ?_;refine BG ?_ ?_<;>intro hp
  .refine AO f8 ?_
   exact⟨by rw[QO p xs k hk' (fun j hj=>hb j hj U) hp],trivial⟩
  .refine AQ f8 (CW k) ?_
   refine⟨n-1,U,k+1,U,fun j hj hl=>?_,A7,A7,A7,rfl,trivial⟩;rcases jZ j k with h1|h1
   .exact hb j h1 hl
   .obtain rfl:j=k:=U
    exact hp
 .refine Z ?_
  have hk':¬k<xs.length:=BL hc;exact⟨by rw[PU p xs fun j hj=>hb j U hj],trivial⟩
theorem AN7 (xs:List Ds)(m:SM)(fid:FuncId)(caps:List AV)(p:Ds->Bool)(h:Hp)(hn:xs.length<=1099511627776)(hf:∀x∈xs,PCall (En G) fid ([.agg (IJ x)]++caps) h (.bool (p x))):
  PCall (En G) 159 [.sl m 2 (xs.map IJ),.fn (.func fid) [] caps] h (.bool (xs.any p)):=by
 refine acT Tryz.func159 4 ?_;refine Z ?_;refine(ADX G xs m fid caps p h hn hf).use ?_;refine AO @QP ?_;exact G8
theorem AAA (xs:List Wg)(m:SM)(fid:FuncId)(caps:List AV)(p:Wg->Bool)(h:Hp)(hn:xs.length<=1099511627776)(hf:∀x∈xs,PCall (En G) fid ([.agg (IZ x)]++caps) h (.bool (p x))):
  PCall (En G) 178 [.sl m 4 (xs.map IZ),.fn (.func fid) [] caps] h (.n (NR p xs)):=by
 refine acT Tryz.func178 4 ?_;refine AO yV ?_;refine BB (fun n F H=>∃k,n+k=xs.length∧(∀(j:Nat) (hj:j<k) (hl:j<xs.length),p xs[j]=false)∧F 0=.sl m 4 (xs.map IZ)∧F 1=.fn (.func fid) [] caps∧F 7=.n (xs.length:Nat)∧F 8=.n (k:Nat)∧H=h) xs.length ⟨0,A8,fun j hj=>absurd hj U,AC,AC,AC,AC,rfl⟩ ?_;rintro n F H ⟨k,hk,hb,f0,f1,f7,f8,rfl⟩;refine AQ f7 f8 ?_;refine BG ?_ ?_<;>intro hc
 .have hk':k<xs.length:=BL hc
  simp -implicitDefEqProofs only[vQ,CJ,qA,zF,↓reduceIte,jC,enP,ANV,f0,f1,f8,CG hk',CY AVH AFT dR hk'];refine(hf _ (jH hk')).uu ?_;refine BG ?_ ?_<;>intro hp
  .refine AO f8 ?_
   exact⟨by rw[QO p xs k hk' (fun j hj=>hb j hj U) hp],trivial⟩
  .refine AQ f8 (CW k) ?_
   refine⟨n-1,U,k+1,U,fun j hj hl=>?_,A7,A7,A7,rfl,trivial⟩;rcases jZ j k with h1|h1
   .exact hb j h1 hl
   .obtain rfl:j=k:=U
    exact hp
 .refine Z ?_
  have hk':¬k<xs.length:=BL hc;exact⟨by rw[PU p xs fun j hj=>hb j U hj],trivial⟩
theorem AWS (xs:List Wg)(m:SM)(fid:FuncId)(caps:List AV)(p:Wg->Bool)(h:Hp)(hn:xs.length<=1099511627776)(hf:∀x∈xs,PCall (En G) fid ([.agg (IZ x)]++caps) h (.bool (p x))):
  PCall (En G) 238 [.sl m 4 (xs.map IZ),.fn (.func fid) [] caps] h (.bool (xs.any p)):=by
 refine acT Tryz.func238 4 ?_;refine Z ?_;refine(AAA G xs m fid caps p h hn hf).use ?_;refine AO @QP ?_;exact G8
theorem AUQ {xs:List ByteArray}(hk:k<xs.length):BO jA h 9 (.fptr 1 (xs.map qencStr) k 0)=some (.str xs[k]):=by rw[BP ag9 hk]; rfl
theorem AJ2 (xs:List ByteArray)(m:SM)(fid:FuncId)(caps:List AV)(p:ByteArray->Bool)(h:Hp)(hn:xs.length<=1099511627776)(hf:∀x∈xs,PCall (En G) fid ([.str x]++caps) h (.bool (p x))):
  PCall (En G) 236 [.sl m 1 (xs.map qencStr),.fn (.func fid) [] caps] h (.n (NR p xs)):=by
 refine acT Tryz.func236 4 ?_;refine Z ?_;refine BB (fun n F H=>∃k,n+k=xs.length∧(∀(j:Nat) (hj:j<k) (hl:j<xs.length),p xs[j]=false)∧F 0=.sl m 1 (xs.map qencStr)∧F 1=.fn (.func fid) [] caps∧F 7=.n (xs.length:Nat)∧F 8=.n (k:Nat)∧H=h) xs.length ⟨0,A8,fun j hj=>absurd hj U,AC,AC,AC,AC,rfl⟩ ?_;rintro n F H ⟨k,hk,hb,f0,f1,f7,f8,rfl⟩;refine AQ f7 f8 ?_;refine BG ?_ ?_<;>intro hc
 .have hk':k<xs.length:=BL hc
  simp -implicitDefEqProofs only[vQ,CJ,qA,zF,↓reduceIte,jC,enP,Y0,f0,f1,f8,CG hk',AUQ hk'];refine(hf _ (jH hk')).uu ?_;refine BG ?_ ?_<;>intro hp
  .refine AO f8 ?_
   exact⟨by rw[QO p xs k hk' (fun j hj=>hb j hj U) hp],trivial⟩
  .refine AQ f8 (CW k) ?_
   refine⟨n-1,U,k+1,U,fun j hj hl=>?_,A7,A7,A7,rfl,trivial⟩;rcases jZ j k with h1|h1
   .exact hb j h1 hl
   .obtain rfl:j=k:=U
    exact hp
 .refine Z ?_
  have hk':¬k<xs.length:=BL hc;exact⟨by rw[PU p xs fun j hj=>hb j U hj],trivial⟩
theorem ASF (xs:List ByteArray)(m:SM)(fid:FuncId)(caps:List AV)(p:ByteArray->Bool)(h:Hp)(hn:xs.length<=1099511627776)(hf:∀x∈xs,PCall (En G) fid ([.str x]++caps) h (.bool (p x))):
  PCall (En G) 155 [.sl m 1 (xs.map qencStr),.fn (.func fid) [] caps] h (.bool (xs.any p)):=by
 refine acT Tryz.func155 4 ?_;refine Z ?_;refine(AJ2 G xs m fid caps p h hn hf).use ?_;refine AO @QP ?_;exact G8
def dgS (k:Nat):ByteArray:=⟨#[UInt8.ofNat (48+k)]⟩
def AHU:ByteArray:=⟨#[48,49,50,51,52,53,54,55,56,57,97,98,99,100,101,102,103,104,105,106,107,108,109,110,111,112,113,114,115,116,117,118,119,120,121,122]⟩
theorem sl36:∀(k:Nat),k<8->∀h:Hp,IQ jA h 9 (.str AHU) (some (.n (k:Nat))) (some (.n ((k+1:Nat):Int))) none=some (.str (dgS k))
 | 0,_,h=>AZ
 | 1,_,h=>AZ
 | 2,_,h=>AZ
 | 3,_,h=>AZ
 | 4,_,h=>AZ
 | 5,_,h=>AZ
 | 6,_,h=>AZ
 | 7,_,h=>AZ
 | n+8,q,_=>absurd q U
theorem ACR (k:Nat)(hk:k<8)(h:Hp):PCall (En G) 396 [.n (k:Nat)] h (.str (dgS k)):=by
 refine acT Tryz.func396 2 ?_;have hd:decide (((k:Nat):Int)<10)=true:=by simp; omega
 have:=sl36 k hk h;unfold AHU at this;refine DI hd (CW k) @this ?_;exact G8
theorem AK9 (k:Nat)(hk:k<8)(h:Hp):PCall (En G) 288 [.n (k:Nat)] h (.str (dgS k)):=by
 have h1:PCall (En G) 358 [.n (k:Nat),.n 10] h (.str (dgS k)):=by
  refine acT Tryz.func358 4 ?_;have d1:((10:Int)==10)=true:=rfl;have d2:decide ((0:Int)<=((k:Nat):Int))=true:=A8;have d3:decide (((k:Nat):Int)<100)=true:=by simp; omega
  refine DI d1 d2 d3 ?_;refine(ACR G k hk h).uu ?_;exact G8
 have h2:PCall (En G) 324 [.n (k:Nat)] h (.str (dgS k)):=by
  refine acT Tryz.func324 2 ?_;refine Z ?_;refine h1.uu ?_;exact G8
 refine acT Tryz.func288 2 ?_;refine Z ?_;refine h2.uu ?_;exact G8
theorem AKX (k:Nat)(hk:k<8)(h:Hp):PCall (En G) 330 [.n (k:Nat)] h (.n (-(k:Int))):=by
 refine acT Tryz.func330 2 ?_;refine Z ?_;refine BG ?_ ?_<;>intro hc
 .have e:IntKind.i64.wrap (0-((k:Nat):Int)) = -(k:Int):=by rw[wrap_i64 U U]; omega
  refine AQ @ALU e ?_;exact G8
 .have e:((k:Nat):Int) = -(k:Int):=by
   have:¬((k:Nat):Int)>0:=BL hc;omega
  refine Z ?_;exact⟨by rw[<-e],trivial⟩
theorem AE9 (k:Nat)(hk:k<8)(h:Hp):PCall (En G) 307 [.n (k:Nat)] h (.str (dgS k)):=by
 refine acT Tryz.func307 2 ?_;refine Z ?_;refine(AKX G k hk h).uu ?_;refine BB (fun n F H=>n=0∧F 0=.n (k:Nat)∧F 3=.str ⟨#[]⟩∧F 4=.n (-(k:Int))∧H=h) 0 ⟨rfl,AC,AC,AC,rfl⟩ ?_;rintro n F H ⟨rfl,f0,f3,f4,rfl⟩
 have e1:(-(k:Int)).tmod 10 = -(k:Int):=by
  rw[Int.neg_tmod,Int.tmod_eq_emod_of_nonneg U]; omega
 have e2:(-(k:Int)).tdiv 10=0:=by
  rw[Int.neg_tdiv,Int.tdiv_eq_ediv_of_nonneg U]; omega
 have e3:(48:Int) - -(k:Int)=48+(k:Int):=U;have r1:H9 jA 3 .rem (.n (-(k:Int))) (.n 10)=some (.n (-(k:Int))):=by rw[hZ _ _ _ _ _ DK,e1]
 have r2:H9 jA 3 .quo (.n (-(k:Int))) (.n 10)=some (.n 0):=by rw[AHR _ _ _ _ _ DK,e2]; rfl
 have a1:H9 jA 9 .add (.str (dgS k)) (.str ⟨#[]⟩)=some (.str (dgS k)):=by
  rw[SV (by show 1+0<=_; omega)];congr 2
 have z:((0:Int)==0)=true:=rfl;have dc:=ABB k hk;change _=some (AV.str (dgS k)) at dc;have n0:decide (((k:Nat):Int)<0)=false:=A8;simp -implicitDefEqProofs only[vQ,LC,KD,UI,Y5,xL,NK,CJ,GH,ACJ,NW,JO,↓reduceIte,jC,enP,AU5,f0,f3,f4,r1,r2,e3,AVA,dc,a1,z,n0];exact G8
theorem AXR (a:ByteArray)(k:Nat)(ha:a.size<=1048576):H9 jA 9 .add (.str a) (.str ⟨#[91]⟩)=some (.str (a++(⟨#[91]⟩:ByteArray)))∧H9 jA 9 .add (.str (a++(⟨#[91]⟩:ByteArray))) (.str (dgS k))=some (.str (a++(⟨#[91]⟩:ByteArray)++dgS k)) ∧
  H9 jA 9 .add (.str (a++(⟨#[91]⟩:ByteArray)++dgS k)) (.str ⟨#[93]⟩)=some (.str (elN a k)) :=
 ⟨SV (by show a.size+1<=_; omega),SV (by rw[YI]; show a.size+1+1<=_; omega),SV (by rw[YI,YI]; show a.size+1+1+1<=_; omega)⟩
theorem dT (a:ByteArray)(k:Nat)(hk:k<8)(h:Hp)(ha:a.size<=1048576):PCall (En G) 233 [.str a,.n (k:Nat)] h (.str (elN a k)):=by
 refine acT Tryz.func233 4 ?_;obtain⟨b1,b2,b3⟩:=AXR a k ha;refine AO b1 ?_;refine(AK9 G k hk h).use ?_;refine AQ b2 b3 ?_;exact G8
theorem lM (a:ByteArray)(k:Nat)(hk:k<8)(h:Hp)(ha:a.size<=1048576):PCall (En G) 263 [.str a,.n (k:Nat)] h (.str (elN a k)):=by
 refine acT Tryz.func263 4 ?_;obtain⟨b1,b2,b3⟩:=AXR a k ha;refine AO b1 ?_;refine(AE9 G k hk h).use ?_;refine AQ b2 b3 ?_;exact G8
theorem PE (a:ByteArray)(k:Nat):(elN a k).data.toList=a.data.toList++[91,UInt8.ofNat (48+k),93]:=by
 unfold elN;simp [ByteArray.data_append]
theorem mK {b:ByteArray}(h:a.data.toList=b.data.toList):a=b:=by
 obtain⟨⟨x⟩⟩:=a;obtain⟨⟨y⟩⟩:=b;have:x=y:=h;rw[this]
theorem AB0 (a:ByteArray):(⟨a.data.toList.toArray⟩:ByteArray)=a:=by obtain⟨⟨x⟩⟩:=a; rfl
theorem uL (hk:k<8):(UInt8.ofNat (48+k)).toNat=48+k:=by
 rw[UInt8.toNat_ofNat']; omega
theorem AHK (hi:i<8)(hj:j<8)(h:elN a i=elN a j):i=j:=by
 have:=congrArg (fun x=>x.data.toList) h;simp only[PE,List.append_cancel_left_eq,List.cons.injEq,and_true,true_and] at this;have:=congrArg UInt8.toNat this;rw[uL hi,uL hj] at this;omega
theorem pZ (hk:k<8)(hn:ER a=true):JK (elN a k)=some (a.data.toList,UInt8.ofNat (48+k)):=by
 have h1:elN a k=⟨(a.data.toList++[91,UInt8.ofNat (48+k),93]).toArray⟩:=mK (PE a k);have hne:a.data.toList≠[]:=(RG (l:=a.data.toList) (by rw[AB0]; exact hn)).1;rw[h1,bU hne,AB0,hn,uL hk];simp;omega
theorem NJ {a:List UInt8}{d:UInt8}(h:JK s=some (a,d)):48<=d.toNat∧d.toNat-48<8∧ER ⟨a.toArray⟩=true∧s=elN ⟨a.toArray⟩ (d.toNat-48)∧a.length+3=s.size:=by
 unfold JK at h;split at h
 case isFalse=>cases h
 rename_i hl;split at h
 case h_2=>cases h
 rename_i x d' y hm;split at h
 case isFalse=>cases h
 rename_i hc;cases h;simp only[jT,beq_iff_eq,decide_eq_true_eq] at hc;obtain⟨⟨⟨⟨rfl,rfl⟩,c1⟩,c2⟩,c3⟩:=hc;refine⟨c1,U,c3,mK ?_,?_⟩
 .rw[PE]
  have e:UInt8.ofNat (48+(d.toNat-48))=d:=by rw[show 48+(d.toNat-48)=d.toNat by omega]; simp
  rw[e,<-hm];simp
 .have:s.size=s.data.toList.length:=(Array.length_toList (xs:=s.data)).symm
  rw[this,jU]; omega
theorem ABX (a b:ByteArray):(a.toList==b.toList)=true↔a=b:=by
 rw[beq_iff_eq,ByteArray.toList_eq,ByteArray.toList_eq];exact⟨mK,fun h=>by rw[h]⟩
def NE (n:ByteArray)(v:Vr):Bool:=v.name.toList==n.toList
def plc (l:List Vr)(n:ByteArray):Int:=NR (NE n) l
theorem AZ7 (v:Vr)(n:ByteArray)(c:Nat)(h:Hp)(hc:h[c]?=some (qF 1 [[.str n]])):PCall (En G) 234 ([.agg (encV v)]++[.ptr c 0 0]) h (.bool (NE n v)):=by
 refine ACalls.pure0 rfl ?_;refine acT Tryz.func234 3 ?_;have hc':(h++[qF 4 [encV v]])[c]?=_:=AL hc;refine JZ @bxV @encV0 (FZ ag9 hc') ?_;exact⟨rfl,_,rfl⟩
theorem index_prog (l:List Vr)(m:SM)(n:ByteArray)(h:Hp)(hl:l.length<=1099511627776):PCall (En G) 150 [.sl m 4 (l.map encV),.str n] h (.n (plc l n)):=by
 refine ACalls.pure0 rfl ?_;refine acT Tryz.func150 4 ?_;refine AO @ATQ ?_;refine(pJ G l m 234 [.ptr h.length 0 0] (NE n) _ hl fun x _=>AZ7 G x n h.length _ (AX _ _)).uu ?_;exact⟨rfl,_,rfl⟩
theorem ZW (l:List Vr)(m:SM)(n:ByteArray)(h:Hp)(hl:l.length<=1099511627776):PCall (En G) 192 [.sl m 4 (l.map encV),.str n] h (.n (plc l n)):=by
 refine acT Tryz.func192 4 ?_;refine Z ?_;refine BB (fun k F H=>∃j,k+j=l.length∧(∀(i:Nat) (hi:i<j) (hl:i<l.length),NE n l[i]=false)∧F 0=.sl m 4 (l.map encV)∧F 1=.str n∧F 5=.n (j:Nat)∧H=h) l.length ⟨0,A8,fun i hi=>absurd hi U,AC,AC,AC,rfl⟩ ?_;rintro k F H ⟨j,hj,hb,f0,f1,f5,rfl⟩;refine AQ f0 f5 ?_;refine BG ?_ ?_<;>intro hc
 .have hj':j<l.length:=BL hc
  have l0:BO jA H 9 (.fptr 4 (l.map encV) j 0)=some (.str l[j].name):=by rw[BP ag9 hj']; rfl
  refine Y6 f0 f1 f5 hj' l0 ?_;refine BG ?_ ?_<;>intro hp
  .refine AO f5 ?_
   exact⟨by rw[plc,QO (NE n) l j hj' (fun i hi=>hb i hi U) hp],trivial⟩
  .refine AQ f5 (CW j) ?_
   refine⟨k-1,U,j+1,U,fun i hi hl=>?_,A7,A7,rfl,trivial⟩;rcases jZ i j with h1|h1
   .exact hb i h1 hl
   .obtain rfl:i=j:=U
    exact hp
 .refine Z ?_
  have hj':¬j<l.length:=BL hc;exact⟨by rw[plc,PU (NE n) l fun i hi=>hb i U hi],trivial⟩
theorem AXC (s:ByteArray):(Lib.cut s.data.toList [91]).1.length<=s.size:=by
 have:=AHO s.data.toList;have e:s.data.toList.length=s.size:=Array.length_toList;omega
theorem ADL (hG:GOk G)(s:ByteArray)(h:Hp)(hl:s.size<=1048576):PCall (En G) 149 [.str s] h (.bool (FK s)):=by
 refine acT Tryz.func149 2 ?_;refine Z ?_;refine(L9 G hG.kw s h U).use ?_;cases hn:ER s
 case true =>
  refine Z ?_;exact⟨by unfold FK; rw[hn,zQ],trivial⟩
 have hv:FK s=(JK s).isSome:=by unfold FK; rw[hn,zY]
 rw[hv];clear hn hv;refine Z ?_;refine(lT G hG s h hl).use ?_;have he:=lO s;have hal:=AXC s;unfold cutV
 generalize Lib.cut s.data.toList [91]=c at he hal|-
 obtain⟨a,b,f⟩:=c;simp only at he hal;refine Z ?_;cases f
 .refine Z ?_
  exact⟨by rw[he]; rfl,trivial⟩
 refine Z ?_;refine(L9 G hG.kw ⟨a.toArray⟩ h (by rw[szl]; omega)).uu ?_;cases hna:ER ⟨a.toArray⟩
 .refine Z ?_
  exact⟨by rw[he,hna]; rfl,trivial⟩
 refine Z ?_;refine BB (fun n F H=>∃k,n+k=8∧(∀j,j<k->j<8->s≠elN ⟨a.toArray⟩ j)∧F 0=.str s∧F 3=.str ⟨a.toArray⟩∧F 22=.n (k:Nat)∧H=h) 8 ⟨0,A8,fun j hj=>absurd hj U,AC,AC,AC,rfl⟩ ?_;rintro n F H ⟨k,hk,hb,f0,f3,f22,rfl⟩;refine AO f22 ?_;refine BG ?_ ?_<;>intro hc
 .have hk':k<8:=by simp at hc; omega
  refine DI f0 f3 f22 ?_;refine(dT G ⟨a.toArray⟩ k hk' H (by rw[szl]; omega)).use ?_;refine AO f0 ?_;refine BG ?_ ?_<;>intro hp
  .refine Z ?_
   exact⟨by rw[(ABX _ _).1 hp,pZ hk' hna]; rfl,trivial⟩
  .refine AQ f22 (CW k) ?_
   refine⟨n-1,U,k+1,U,fun j hj h8=>?_,A7,A7,rfl,trivial⟩;rcases jZ j k with h1|h1
   .exact hb j h1 h8
   .obtain rfl:j=k:=U
    intro e;rw[(ABX _ _).2 e] at hp;cases hp
 .refine Z ?_
  have hk':8<=k:=by simp at hc; omega
  refine⟨?_,trivial⟩;rcases hcase:JK s with _|⟨a',d⟩
  .rfl
  .exfalso
   obtain⟨c1,c2,c3,c4,_⟩:=NJ hcase;rw[he,hna] at hcase
   have:a'=a:=by
    simp only[Bool.and_true,if_true] at hcase;split at hcase
    .split at hcase
     .cases hcase; rfl
     .cases hcase
    .cases hcase
   subst this;exact hb _ U c2 c4
theorem AW9 (hi:i<(elN a k).size)(h:i=a.size):(elN a k)[i]=91:=by
 subst h
 have h1:(elN a k).data.toList[a.size]?=some 91:=by
  rw[PE,List.getElem?_append_right (by show a.data.toList.length<=a.data.size; simp)];have:a.size-a.data.toList.length=0:=by show a.data.size-a.data.toList.length=0; simp
  rw[this]; rfl
 have h2:(elN a k).data[a.size]?=some 91:=by rw[<-Array.getElem?_toList]; exact h1
 have hk':a.size<(elN a k).data.size:=hi;rw[Array.getElem?_eq_getElem hk'] at h2;exact Option.some.inj h2
theorem uI (a:ByteArray)(k:Nat):(elN a k).extract 0 a.size=a:=by
 refine mK ?_;have:(elN a k)=⟨(a.data.toList++[91,UInt8.ofNat (48+k),93]).toArray⟩:=mK (PE a k);rw[this];have e:a.size=a.data.toList.length:=(Array.length_toList (xs:=a.data)).symm;rw[e,AHD]
theorem AK8 (s:ByteArray)(h:Hp)(hl:s.size<=1048576):PCall (En G) 262 [.str s] h (.bool (FK s)):=by
 refine acT Tryz.func262 2 ?_;refine Z ?_;refine(NF G s h).use ?_;cases hn:ER s
 case true =>
  refine Z ?_;exact⟨by unfold FK; rw[hn,zQ],trivial⟩
 have hv:FK s=(JK s).isSome:=by unfold FK; rw[hn,zY]
 rw[hv];clear hn hv;refine Z ?_;refine BB (fun n F H=>∃k,1<=k∧n+k=s.size+1∧(∀a j,j<8->ER a=true->a.size<k->s≠elN a j)∧F 0=.str s∧F 3=.n (k:Nat)∧H=h) s.size ⟨1,U,U,fun a j hj ha hs e=>?_,AC,AC,rfl⟩ ?_
 .have:=(RG (l:=a.data.toList) (by rw[AB0]; exact ha)).1
  have h2:a.data.toList.length=a.size:=Array.length_toList;have:=qQ.2 this;omega
 rintro n F H ⟨k,hk1,hk,hb,f0,f3,rfl⟩;refine AQ f0 f3 ?_;refine DU ?_ ?_<;>intro hk'
 .have hnext:∀F':Fr,F' 0=.str s->F' 3=.n (k:Nat)->(∀a j,j<8->ER a=true->a.size=k->s≠elN a j)->∃m,m<n∧∃k',1<=k'∧m+k'=s.size+1∧(∀a j,j<8->ER a=true->a.size<k'->s≠elN a j)∧k'=k+1:=fun F' _ _ hk2 =>
   ⟨n-1,U,k+1,U,U,fun a j hj ha hs=>by
    rcases jZ a.size k with h1|h1
    .exact hb a j hj ha h1
    .exact hk2 a j hj ha U,rfl⟩
  refine DI f0 f3 (ix9 s k .i64 hk') ?_;refine GV ?_ ?_<;>intro hx
  .refine DI hx f3 (CW k) ?_
   obtain⟨m,hm,k',h1,h2,h3,rfl⟩:=hnext F f0 f3 (fun a j hj ha hs e=>by
    subst e;rw[AW9 hk' hs.symm] at hx
    revert hx; decide)
   exact⟨m,hm,k+1,h1,h2,h3,A7,rfl,trivial⟩
  simp -implicitDefEqProofs only[vQ,zO,zZ,ED,CJ,UR,↓reduceIte,jC,enP,hx,f0,f3,iM (Nat.le_of_lt hk')];refine(NF G (s.extract 0 k) _).use ?_;refine AO hx ?_;refine BG ?_ ?_<;>intro hy
  .refine AQ f3 (CW k) ?_
   obtain⟨m,hm,k',h1,h2,h3,rfl⟩:=hnext F f0 f3 (fun a j hj ha hs e=>by
    subst e;subst hs;rw[uI,ha] at hy
    cases hy)
   exact⟨m,hm,k+1,h1,h2,h3,A7,rfl,trivial⟩
  have hna:ER (s.extract 0 k)=true:=BL hy;refine Z ?_;refine D9 2 (fun F' H'=>F' 0=.str s∧F' 3=.n (k:Nat)∧H'=H∧∀j,j<8->s≠elN (s.extract 0 k) j) (fun F' H'=>F' 2=.bool (JK s).isSome∧H'=H) ?_ ?_ ?_
  .refine BB (fun n' F' H'=>∃i,n'+i=8∧(∀j,j<i->j<8->s≠elN (s.extract 0 k) j)∧F' 0=.str s∧F' 3=.n (k:Nat)∧F' 4=.n (i:Nat)∧H'=H) 8 ⟨0,A8,fun j hj=>absurd hj U,DW f0,DW f3,AC,rfl⟩ ?_
   clear f0 f3;rintro n' F H ⟨i,hi,hbi,f0,f3,f4,rfl⟩;refine AO f4 ?_;refine BG ?_ ?_<;>intro hc
   .have hi':i<8:=by simp at hc; omega
    simp -implicitDefEqProofs only[vQ,zO,zZ,CJ,UR,↓reduceIte,jC,enP,f0,f3,f4,iM (Nat.le_of_lt hk')];refine(lM G (s.extract 0 k) i hi' _ (by simp [ByteArray.size_extract]; omega)).uu ?_;refine BG ?_ ?_<;>intro hp
    .refine Z ?_
     refine⟨?_,trivial⟩;have:=(ABX _ _).1 hp;rw[this,pZ hi' hna]; rfl
    .refine AQ f4 (CW i) ?_
     refine⟨n'-1,U,i+1,U,fun j hj h8=>?_,A7,A7,rfl,trivial⟩;rcases jZ j i with h1|h1
     .exact hbi j h1 h8
     .obtain rfl:j=i:=U
      intro e;rw[(ABX _ _).2 e] at hp;cases hp
   .have hi':8<=i:=by simp at hc; omega
    refine Z ?_;exact⟨f0,f3,trivial,fun j hj=>hbi j U hj⟩
  .rintro F' H' ⟨g0,g3,rfl,hno⟩
   refine AQ g3 (CW k) ?_
   obtain⟨m,hm,k',h1,h2,h3,rfl⟩:=hnext F' g0 g3 (fun a j hj ha hs e=>by
    refine hno j hj ?_
    rw[e,<-hs,uI])
   exact⟨m,hm,k+1,h1,h2,h3,A7,rfl,trivial⟩
  .rintro F' H' ⟨g2,rfl⟩
   refine AO g2 ?_;exact G8
 .refine Z ?_
  refine⟨?_,trivial⟩;rcases hcase:JK s with _|⟨a,d⟩
  .rfl
  .exfalso
   obtain⟨c1,c2,c3,c4,c5⟩:=NJ hcase;refine hb ⟨a.toArray⟩ _ c2 c3 ?_ c4;rw[szl]; omega
def PL (l:List Vr)(s:ByteArray):Bool:=match JK s with
 | some (a,d)=>decide (1<=d.toNat-48)&&decide (plc l (elN ⟨a.toArray⟩ (d.toNat-48-1))<0)
 | none=>false
theorem AO6 (h:ER s=true):(Lib.cut s.data.toList [91]).2.2=false:=by
 obtain⟨_,hne⟩:=RG (l:=s.data.toList) (by rw[AB0]; exact h)
 have:Lib.index s.data.toList [91] = -1:=Lib.index_none fun j _=>by
  rw[<-Bool.not_eq_true];intro ho;have:=Lib.occAt_head rfl ho;exact hne 91 (zU this) rfl
 unfold Lib.cut;rw[this,if_neg U]
theorem AO7 {a:List UInt8}{d:UInt8}(h:JK s=some (a,d)):(Lib.cut s.data.toList [91]).1=a∧(Lib.cut s.data.toList [91]).2.2=true:=by
 rw[lO] at h;split at h
 case isFalse=>cases h
 rename_i hc;split at h
 case h_2=>cases h
 split at h
 case isFalse=>cases h
 cases h;exact⟨rfl,(Bool.and_eq_true_iff.1 hc).1⟩
theorem AOA (hG:GOk G)(l:List Vr)(m:SM)(s:ByteArray)(h:Hp)(hl:l.length<=1099511627776)(hs:s.size<=1048576)(hv:FK s=true):PCall (En G) 153 [.sl m 4 (l.map encV),.str s] h (.bool (PL l s)):=by
 refine acT Tryz.func153 4 ?_;refine Z ?_;refine(lT G hG s h hs).use ?_;unfold cutV;rcases hcase:JK s with _|⟨a,d⟩
 .have hn:ER s=true:=by
   unfold FK at hv; rw[hcase] at hv; simpa using hv
  have hg:PL l s=false:=by unfold PL; rw[hcase]
  rw[AO6 hn,hg];refine Z ?_;exact G8
 obtain⟨e1,e2⟩:=AO7 hcase;obtain⟨c1,c2,c3,c4,c5⟩:=NJ hcase;have hg:PL l s=(decide (1<=d.toNat-48)&&decide (plc l (elN ⟨a.toArray⟩ (d.toNat-48-1))<0)):=by unfold PL; rw[hcase]
 rw[e1,e2,hg];clear hg hcase e1 e2
 generalize d.toNat-48=q at c2 c4|-
 refine Z ?_;refine BB (fun n F H=>∃k,n+k=8∧1<=k∧(∀j,1<=j->j<k->j≠q)∧F 0=.sl m 4 (l.map encV)∧F 1=.str s∧F 5=.str ⟨a.toArray⟩∧F 8=.n (k:Nat)∧H=h) 7 ⟨1,A8,U,fun j h1 h2=>absurd h2 U,AC,AC,AC,AC,rfl⟩ ?_;rintro n F H ⟨k,hk,hk1,hb,f0,f1,f5,f8,rfl⟩;refine AO f8 ?_;refine BG ?_ ?_<;>intro hc
 .have hk':k<8:=by simp at hc; omega
  refine DI f1 f5 f8 ?_;refine(dT G ⟨a.toArray⟩ k hk' H (by rw[szl]; omega)).use ?_;refine AO f1 ?_;refine BG ?_ ?_<;>intro hp
  .have hq:k=q:=by
    have:=(ABX _ _).1 hp;rw[c4] at this;exact(AHK c2 hk' this).symm
   have hw:IntKind.i64.wrap (((k:Nat):Int)-1)=((k-1:Nat):Int):=by rw[wrap_i64 U U]; omega
   refine EO f0 f5 f8 hw ?_;refine(dT G ⟨a.toArray⟩ (k-1) U H (by rw[szl]; omega)).use ?_;refine AO f0 ?_;refine(index_prog G l m _ H hl).uu ?_;refine⟨?_,trivial⟩;rw[<-hq,decide_eq_true hk1,wM]
  .refine AQ f8 (CW k) ?_
   refine⟨n-1,U,k+1,U,U,fun j h1 h2=>?_,A7,A7,A7,rfl,trivial⟩;rcases jZ j k with h3|h3
   .exact hb j h1 h3
   .obtain rfl:j=k:=U
    intro e;rw[(ABX _ _).2 (by rw[c4,e])] at hp;cases hp
 .refine Z ?_
  have hk':8<=k:=by simp at hc; omega
  refine⟨?_,trivial⟩;have:¬1<=q:=fun h1=>hb q h1 U rfl
  rw[decide_eq_false this,Bool.false_and]
theorem APV (hk:k<s.size):s.data.toList[k]?=some s[k]:=by
 have h2:s.data[k]?=some s[k]:=Array.getElem?_eq_getElem hk;rw[Array.getElem?_toList]; exact h2
theorem A04 (hv:FK s=true)(hk:k<s.size)(hb:s[k]=91):∃a d,JK s=some (a,d)∧k=a.length∧s.extract 0 k=⟨a.toArray⟩:=by
 have hg:=APV hk;rw[hb] at hg;rcases hcase:JK s with _|⟨a,d⟩
 .exfalso
  have hn:ER s=true:=by unfold FK at hv; rw[hcase] at hv; simpa using hv
  exact(RG (l:=s.data.toList) (by rw[AB0]; exact hn)).2 91 (zU hg) rfl
 .obtain⟨c1,c2,c3,c4,c5⟩:=NJ hcase
  refine⟨a,d,rfl,?_⟩;have hna:=(RG c3).2;rw[c4,PE] at hg
  have hkk:k=a.length:=by
   rcases Nat.lt_trichotomy k a.length with h1|h1|h1
   .exfalso
    rw[List.getElem?_append_left (BL h1)] at hg;exact hna 91 (zU hg) rfl
   .exact h1
   .exfalso
    rw[List.getElem?_append_right MS] at hg;simp only at hg;obtain⟨j,hj⟩:∃j,k-a.length=j+1:=⟨k-a.length-1,U⟩;rw[hj,List.getElem?_cons_succ] at hg;have:j=0∨j=1:=U;rcases this with rfl|rfl
    .simp only[List.getElem?_cons_zero,Option.some.injEq] at hg
     have:=congrArg UInt8.toNat hg;rw[uL c2] at this;have h91:(91:UInt8).toNat=91:=rfl;omega
    .simp only[List.getElem?_cons_succ,List.getElem?_cons_zero,Option.some.injEq] at hg
     exact absurd hg DK
  refine⟨hkk,?_⟩;have:=uI ⟨a.toArray⟩ (d.toNat-48);rw[szl,<-c4,<-hkk] at this;exact this
theorem ASM (l:List Vr)(m:SM)(h:Hp)(hl:l.length<=1048576)(hv:∀v∈l,FK v.name=true∧v.name.size<=1048576):PCall (En G) 193 [.sl m 4 (l.map encV)] h (.bool (l.any fun v=>PL l v.name)):=by
 refine acT Tryz.func193 2 ?_;refine Z ?_;refine BB (fun n F H=>∃i,n+i=l.length∧(∀(j:Nat) (hj:j<i) (hl:j<l.length),PL l l[j].name=false)∧F 0=.sl m 4 (l.map encV)∧F 3=.n (i:Nat)∧H=h) l.length ⟨0,A8,fun j hj=>absurd hj U,AC,AC,rfl⟩ ?_;rintro n F H ⟨i,hi,hb,f0,f3,rfl⟩;refine AQ f0 f3 ?_;refine BG ?_ ?_<;>intro hc
 .have hi':i<l.length:=BL hc
  obtain⟨hvi,hsz⟩:=hv _ (jH hi');have l0:BO jA H 9 (.fptr 4 (l.map encV) i 0)=some (.str l[i].name):=by rw[BP ag9 hi']; rfl
  have hany:PL l l[i].name=true->(l.any fun v=>PL l v.name)=true:=fun hg=>qK.2 ⟨_,jH hi',hg⟩
  generalize hs:l[i].name=s at hvi hsz l0 hany;refine Z ?_;refine D9 2 (fun F' H'=>F' 0=.sl m 4 (l.map encV)∧F' 3=.n (i:Nat)∧H'=H∧PL l s=false) (fun F' H'=>F' 2=.bool (l.any fun v=>PL l v.name)∧H'=H) ?_ ?_ ?_
  .refine BB (fun n' F' H'=>∃k,1<=k∧n'+k=s.size+1∧(∀a d,JK s=some (a,d)->a.length<k->PL l s=false)∧F' 0=.sl m 4 (l.map encV)∧F' 3=.n (i:Nat)∧F' 4=.n (k:Nat)∧H'=H) s.size ⟨1,U,U,fun a d ha h1=>?_,DW f0,DW f3,AC,rfl⟩ ?_
   .exfalso
    have:=(RG (NJ ha).2.2.1).1;have:=qQ.2 this;omega
   clear f0 f3;rintro n' F H ⟨k,hk1,hk,hbk,f0,f3,f4,rfl⟩;refine Y6 f0 f3 f4 hi' l0 ?_;refine DU ?_ ?_<;>intro hk'
   .refine cK f0 f3 f4 hi' l0 (ix9 s k .i64 hk') ?_
    refine BG ?_ ?_<;>intro hx
    .refine AQ f4 (CW k) ?_
     refine⟨n'-1,U,k+1,U,U,fun a d ha h1=>?_,f0,f3,rfl,trivial⟩;rcases jZ a.length k with h2|h2
     .exact hbk a d ha h2
     .exfalso
      obtain⟨c1,c2,c3,c4,c5⟩:=NJ ha
      have h3:s[k]=91:=by
       have h4:s.data.toList[k]?=some 91:=by
        rw[c4,PE,List.getElem?_append_right MS];have:k-(⟨a.toArray⟩:ByteArray).data.toList.length=0:=by simp; omega
        rw[this]; rfl
       rw[APV hk'] at h4;exact Option.some.inj h4
      rw[h3] at hx
      revert hx; decide
    have hbr:s[k]=91:=by
     have h0:((s[k].toNat:Int)==91)=true:=by
      simpa [bne] using hx
     have h1:(s[k].toNat:Int)=91:=BL h0;exact UInt8.toNat_inj.1 (by show _=91; omega)
    obtain⟨a,d,ha,hka,hext⟩:=A04 hvi hk' hbr;obtain⟨c1,c2,c3,c4,c5⟩:=NJ ha;have hgv:PL l s=(decide (1<=d.toNat-48)&&decide (plc l (elN ⟨a.toArray⟩ (d.toNat-48-1))<0)):=by unfold PL; rw[ha]
    have hasz:(⟨a.toArray⟩:ByteArray).size<=1048576:=by rw[szl]; omega
    generalize d.toNat-48=q at c2 c4 hgv;refine Z ?_;refine D9 4 (fun F' H'=>F' 0=.sl m 4 (l.map encV)∧F' 3=.n (i:Nat)∧F' 4=.n (k:Nat)∧H'=H∧PL l s=false) (fun F' H'=>F' 2=.bool (l.any fun v=>PL l v.name)∧H'=H) ?_ ?_ ?_
    .refine BB (fun n2 F' H'=>∃t,1<=t∧n2+t=8∧(1<=q->q<t->PL l s=false)∧F' 0=.sl m 4 (l.map encV)∧F' 3=.n (i:Nat)∧F' 4=.n (k:Nat)∧F' 5=.n (t:Nat)∧H'=H) 7 ⟨1,U,U,fun h1 h2=>absurd h2 U,DW f0,DW f3,DW f4,AC,rfl⟩ ?_
     clear f0 f3 f4;rintro n2 F H ⟨t,ht1,ht,hbt,f0,f3,f4,f5,rfl⟩;refine AO f5 ?_;refine BG ?_ ?_<;>intro hc
     .have ht':t<8:=by simp at hc; omega
      have hw:IntKind.i64.wrap (((t:Nat):Int)-1)=((t-1:Nat):Int):=by rw[wrap_i64 U U]; omega
      refine Z ?_;refine DJ AZ ?_;simp -implicitDefEqProofs only[vQ,zO,zZ,aI,LP,KF,UR,↓reduceIte,jC,jP,enP,dE,YG,f0,f3,f4,f5,CG hi',l0,iM (Nat.le_of_lt hk'),hext];refine⟨_,lM G ⟨a.toArray⟩ t ht' _ hasz,?_⟩;refine Z ?_
      have nxt:PL l s=false∨t≠q->∃m',m'<n2∧∃t',1<=t'∧m'+t'=8∧(1<=q->q<t'->PL l s=false)∧t'=t+1:=fun hh =>
       ⟨n2-1,U,t+1,U,U,fun h1 h2=>by
        rcases hh with hh|hh
        .exact hh
        .exact hbt h1 U,rfl⟩
      refine mU ?_ ?_<;>intro hp
      .have hq:t=q:=by
        have:=(ABX _ _).1 hp;rw[c4] at this;exact(AHK c2 ht' this).symm
       simp -implicitDefEqProofs only[vQ,zO,zZ,IM,KI,Y7,aI,LP,KF,ED,UR,NW,↓reduceIte,jC,jP,enP,dE,YG,hp,f0,f3,f4,f5,CG hi',l0,iM (Nat.le_of_lt hk'),hext,hw];refine⟨_,lM G ⟨a.toArray⟩ (t-1) U _ hasz,?_⟩
       try refine AO hp ?_
       refine⟨_,ZW G l m _ _ U,?_⟩;refine AO hp ?_;refine BG ?_ ?_<;>intro hz
       .refine Z ?_
        refine⟨?_,trivial⟩;rw[hany];rw[hgv,<-hq,decide_eq_true ht1,hz]; rfl
       .refine AQ f5 (CW t) ?_
        obtain⟨m',hm,t',h1,h2,h3,rfl⟩:=nxt (.inl (by rw[hgv,<-hq,hz,Bool.and_false]));exact⟨m',hm,t+1,h1,h2,h3,f0,f3,f4,rfl,trivial⟩
      .refine DI hp f5 (CW t) ?_
       obtain⟨m',hm,t',h1,h2,h3,rfl⟩:=nxt (.inr (fun e=>by
        rw[(ABX _ _).2 (by rw[c4,e])] at hp
        cases hp))
       exact⟨m',hm,t+1,h1,h2,h3,f0,f3,f4,rfl,trivial⟩
     .have ht':8<=t:=by simp at hc; omega
      refine Z ?_;refine⟨f0,f3,f4,trivial,?_⟩;rcases jZ q 1 with h1|h1
      .rw[hgv,decide_eq_false U,Bool.false_and]
      .exact hbt h1 U
    .rintro F' H' ⟨g0,g3,g4,rfl,hno⟩
     refine AQ g4 (CW k) ?_;exact⟨n'-1,U,k+1,U,U,fun _ _ _ _=>hno,g0,g3,rfl,trivial⟩
    .rintro F' H' ⟨g2,rfl⟩
     refine AO g2 ?_;exact G8
   .refine Z ?_
    refine⟨f0,f3,trivial,?_⟩;rcases hcase:JK s with _|⟨a,d⟩
    .unfold PL; rw[hcase]
    .exact hbk a d hcase (by have:=(NJ hcase).2.2.2.2; omega)
  .rintro F' H' ⟨g0,g3,rfl,hno⟩
   refine AQ g3 (CW i) ?_;refine⟨n-1,U,i+1,U,fun j hj hl=>?_,g0,rfl,trivial⟩;rcases jZ j i with h1|h1
   .exact hb j h1 hl
   .obtain rfl:j=i:=U
    rw[hs]; exact hno
  .rintro F' H' ⟨g2,rfl⟩
   refine AO g2 ?_;exact G8
 .refine Z ?_
  have hi':¬i<l.length:=BL hc;refine⟨?_,trivial⟩
  have:(l.any fun v=>PL l v.name)=false:=by
   rw[qM];intro v hv;obtain⟨j,hj,rfl⟩:=qR hv;rw[hb j U hj]; decide
  rw[this]
def fstE {α:Type}(f:α->Int):List α->Int
 | []=>0
 | x::r=>if f x≠0 then f x else fstE f r
theorem SE {α:Type}(f:α->Int):∀(xs:List α) (k:Nat) (hk:k<xs.length),(∀(j:Nat) (hj:j<k),f (xs[j]'U)=0)->f xs[k]≠0->fstE f xs=f xs[k]
 | x::r,0,_,_,h=>by
   have h:f x≠0:=h;show(if f x≠0 then f x else fstE f r)=f x;rw[if_pos h]
 | x::r,k+1,hk,hb,h=>by
   have h0:f x=0:=hb 0 U;have ih:=SE f r k (BL hk) (fun j hj=>hb (j+1) U) h;show(if f x≠0 then f x else fstE f r)=f (r[k]'(BL hk));rw[if_neg (by simp [h0]),ih]
theorem PW {α:Type}(f:α->Int):∀xs:List α,(∀(j:Nat) (hj:j<xs.length),f xs[j]=0)->fstE f xs=0
 | [],_=>rfl
 | x::r,hb=>by
   have h0:f x=0:=hb 0 A8;show(if f x≠0 then f x else fstE f r)=0;rw[if_neg (by simp [h0]),PW f r fun j hj=>hb (j+1) (BL hj)]
theorem fstE_zero {α:Type}{f:α->Int}:∀ {xs:List α},fstE f xs=0->∀x∈xs,f x=0
 | y::r,h,x,hx=>by
   have h1:(if f y≠0 then f y else fstE f r)=0:=h;split at h1
   .rename_i hy; exact absurd h1 hy
   .rename_i hy
    rcases zK.1 hx with rfl|hx
    .simpa using hy
    .exact fstE_zero h1 x hx
def NL (v:Vr):Bool:=decide (v.width<1)||decide (v.width>8)||decide (v.mode<0)||decide (v.mode>2)||decide (v.value<0)||decide (v.value≥2^v.width.toNat)||(!(v.mode==0) && !(v.value==0))
def vrE (v:Vr):Int:=if FK v.name=true then if NL v=true then 1 else 0 else 7
theorem AYR:∀n:Nat,n<=8->H9 jA 3 .shl (.n 1) (.n (n:Nat))=some (.n (2^n))
 | 0,_=>AZ
 | 1,_=>AZ
 | 2,_=>AZ
 | 3,_=>AZ
 | 4,_=>AZ
 | 5,_=>AZ
 | 6,_=>AZ
 | 7,_=>AZ
 | 8,_=>AZ
 | n+9,h=>absurd h U
theorem shl_w {w:Int}(h0:¬w<1)(h1:¬w>8):H9 jA 3 .shl (.n 1) (.n w)=some (.n (2^w.toNat)):=by
 obtain⟨n,rfl⟩:=Int.eq_ofNat_of_zero_le (U:0<=w);exact AYR n U
theorem rX (v:Vr)(h:Hp)(hs:v.name.size<=1048576):PCall (En G) 191 [.agg (encV v)] h (.n (vrE v)):=by
 refine ACalls.pure0 rfl ?_;refine acT Tryz.func191 2 ?_;refine J3 @bxV @encV0 ?_;refine(AK8 G v.name _ hs).use ?_;cases hn:FK v.name
 .refine Z ?_
  exact⟨by unfold vrE; rw[hn]; rfl,_,rfl⟩
 refine TM @encV1 ?_;have fin:∀b,NL v=b->vrE v=if b=true then 1 else 0:=fun b hb=>by unfold vrE; rw[hn,hb]; rfl
 cases b1:decide (v.width<1)
 case true =>
  refine AO b1 ?_;exact⟨by rw[fin true (by unfold NL; rw[b1]; simp)]; rfl,_,rfl⟩
 refine J3 b1 @encV1 ?_;cases b2:decide (v.width>8)
 case true =>
  refine AO b2 ?_;exact⟨by rw[fin true (by unfold NL; rw[b2]; simp)]; rfl,_,rfl⟩
 refine J3 b2 @encV2 ?_;cases b3:decide (v.mode<0)
 case true =>
  refine AO b3 ?_;exact⟨by rw[fin true (by unfold NL; rw[b3]; simp)]; rfl,_,rfl⟩
 refine J3 b3 @encV2 ?_;cases b4:decide (v.mode>2)
 case true =>
  refine AO b4 ?_;exact⟨by rw[fin true (by unfold NL; rw[b4]; simp)]; rfl,_,rfl⟩
 refine J3 b4 @encV3 ?_;cases b5:decide (v.value<0)
 case true =>
  refine AO b5 ?_;exact⟨by rw[fin true (by unfold NL; rw[b5]; simp)]; rfl,_,rfl⟩
 refine AO b5 ?_;have hw1:¬v.width<1:=BL b1;have hw2:¬v.width>8:=BL b2;have hv0:¬v.value<0:=BL b5;have hsh:=shl_w hw1 hw2;have fin2:∀b,(decide (v.value≥2^v.width.toNat)||(!(v.mode==0) && !(v.value==0)))=b->vrE v=if b=true then 1 else 0:=fun b hb=>fin b (by unfold NL; rw[b1,b2,b3,b4,b5]; simpa using hb)
 refine DJ AZ ?_;have hp:(0:Int)<2^v.width.toNat:=Int.pow_pos DK;cases b6:(v.mode==0)<;>cases b7:(v.value==0)<;>cases b8:decide (v.value≥2^v.width.toNat)
 all_goals
  simp -implicitDefEqProofs only[vQ,IM,KI,Y7,XR,ACG,AQI,AT9,Q3,N7,NK,ED,CJ,FM,JO,LM,↓reduceIte,jC,jP,qV,enP,VJ,VI,YF,D6 ag3,encV1,encV2,encV3,hsh,b6,b7,b8,bne];refine⟨?_,_,rfl⟩;rw[fin2 _ rfl,b6,b7,b8]
  first
   | rfl
   | (exfalso
      simp at b7 b8
      omega)
def uK (l:List Vr):Bool:=decide (∃i:Fin l.length,0<=plc (l.take i.1) (l[i.1]).name)
def JU (l:List Vr):Int:=(l.map fun v=>if v.mode=0 then 0 else v.width).sum
def LD (l:List Vr):Int:=if l.length>16 then 2 else if fstE vrE l≠0 then fstE vrE l else if uK l=true then 8 else if(l.any fun v=>PL l v.name)=true then 10 else if JU l>20 then 2 else 0
theorem yT (v:Vr):NE v.name v=true:=by unfold NE; simp
theorem yA {l:List Vr}(hi:i<l.length):(plc l l[i].name≠(i:Int))↔0<=plc (l.take i) l[i].name:=by
 constructor
 .intro h
  rcases Classical.em (0<=plc (l.take i) l[i].name) with h1|h1
  .exact h1
  .exfalso
   refine h (QO _ l i hi (fun j hj=>?_) (yT _));refine dF (NE l[i].name) (l.take i) (by unfold plc at h1; omega) _ ?_;have:(l.take i)[j]'(by rw[jU]; omega)=l[j]:=List.getElem_take;rw[<-this]; exact jH _
 .intro h e
  obtain⟨k,hk,_,h2,h3⟩:=WY (NE l[i].name) (l.take i) h;rw[jU] at hk;rw[List.getElem_take] at h2;have h0:0<=plc l l[i].name:=by rw[e]; omega
  obtain⟨k',hk',e1,_,e3⟩:=WY (NE l[i].name) l h0
  have:k'=i:=by
   have e1:plc l l[i].name=(k':Int):=e1;omega
  have:=e3 k U;rw[this] at h2; cases h2
theorem AA9 {l:List Vr}(hi:i<l.length)(h:0<=plc (l.take i) l[i].name):uK l=true:=decide_eq_true ⟨⟨i,hi⟩,h⟩
theorem qD {l:List Vr}(h:∀(i:Nat) (hi:i<l.length),plc (l.take i) l[i].name<0):uK l=false:=decide_eq_false fun⟨i,hi⟩=>by have:=h i.1 i.2; omega
theorem Z7 {l:List Vr}(hi:i<l.length):JU (l.take (i+1))=JU (l.take i)+(if l[i].mode=0 then 0 else l[i].width):=by
 unfold JU;rw[jW hi,qL,List.sum_append];simp
theorem mC (l:List Vr)(hw:∀v∈l,vrE v=0):∀i,i<=l.length->0<=JU (l.take i)∧JU (l.take i)<=8*i
 | 0,_=>by simp [JU]
 | i+1,h=>by
   have ih:=mC l hw i U;rw[Z7 (U:i<l.length)];have:=hw _ (jH (U:i<l.length));unfold vrE at this;split at this
   .split at this
    .cases this
    .rename_i hb
     have:NL l[i]=false:=BL hb;unfold NL at this;simp only[Bool.or_eq_false_iff,decide_eq_false_iff_not] at this;split<;>omega
   .cases this
theorem al61 (h:Hp):F9 jA h 131=some (.ptr h.length 0 0,h++[qF 4 [[.str ⟨#[]⟩,.n 0,.n 0,.n 0]]]):=FC (row:=[.str ⟨#[]⟩,.n 0,.n 0,.n 0]) AZ
theorem st61 (h:Hp)(v:Vr):DX jA (h++[qF 4 [[.str ⟨#[]⟩,.n 0,.n 0,.n 0]]]) 131 (.ptr h.length 0 0) (.agg (encV v))=some (h++[qF 4 [encV v]]):=by
 rw[IY (cs:=encV v) (row:=[.str ⟨#[]⟩,.n 0,.n 0,.n 0]) rfl vM (AX _ _) (by exact jF 4),KH];rfl
theorem ldV {l:List Vr}(hi:i<l.length):BO jA h 131 (.fptr 4 (l.map encV) i 0)=some (.agg (encV l[i])):=CY AVI vM encV_len hi
theorem A2K {l:List Vr}{m:SM}(hi:i<=l.length):∃m',IQ jA h 22 (.sl m 4 (l.map encV)) none (some (.n (i:Nat))) none=some (.sl m' 4 ((l.take i).map encV)):=by
 have hs:szO jA 131=some 4:=vM;exact⟨AKN m i (l.map encV).length,by rw[AFV A2I hs (by rw[jL]; exact hi),List.map_take]⟩
theorem nA (l:List Vr)(m:SM)(h:Hp)(hl:l.length<=1048576)(hs:∀v∈l,v.name.size<=1048576):PCall (En G) 104 [.sl m 4 (l.map encV)] h (.n (LD l)):=by
 refine acT Tryz.func104 2 ?_;refine Z ?_;refine BG ?_ ?_<;>intro hc
 .refine Z ?_
  exact⟨by unfold LD; rw[if_pos (by simp at hc; omega)],trivial⟩
 have hlen:¬l.length>16:=by simp at hc; omega
 refine Z ?_;refine D9 0 (fun F H=>F 0=.sl m 4 (l.map encV)∧F 3=.n (JU l)∧H=h∧fstE vrE l=0) (fun F H=>F 2=.n (LD l)∧H=h) ?_ ?_ ?_
 .refine BB (fun n F H=>∃i,n+i=l.length∧(∀(j:Nat) (hj:j<i) (hl:j<l.length),vrE l[j]=0)∧F 0=.sl m 4 (l.map encV)∧F 3=.n (JU (l.take i))∧F 4=.n (i:Nat)∧H=h) l.length ⟨0,A8,fun j hj=>absurd hj U,AC,AC,AC,rfl⟩ ?_
  rintro n F H ⟨i,hi,hb,f0,f3,f4,rfl⟩;refine AQ f0 f4 ?_;refine DU ?_ ?_<;>intro hi'
  .simp -implicitDefEqProofs only[vQ,CJ,↓reduceIte,jC,enP,dE,f0,f4,CG hi',ldV hi']
   refine(rX G l[i] H (hs _ (jH hi'))).uu ?_;refine BG ?_ ?_<;>intro he
   .refine Z ?_
    have he':vrE l[i]≠0:=by simpa [bne] using he
    refine⟨?_,trivial⟩;have:=SE vrE l i hi' (fun j hj=>hb j hj U) he';unfold LD;rw[if_neg hlen,this,if_pos he']
   .have he':vrE l[i]=0:=by simpa [bne] using he
    have hb2:∀(j:Nat) (hj:j<i+1) (hl:j<l.length),vrE l[j]=0:=fun j hj hl=>by
     rcases jZ j i with h1|h1
     .exact hb j h1 hl
     .obtain rfl:j=i:=U
      exact he'
    have hbt:=Z7 hi'
    have hbd:0<=JU (l.take (i+1))∧JU (l.take (i+1))<=8*((i+1:Nat):Int):=by
     have:=mC (l.take (i+1)) (fun v hv=>by
      obtain⟨j,hj,rfl⟩:=qR hv;rw[jU] at hj
      rw[List.getElem_take]; exact hb2 j U U) (i+1) (by rw[jU]; omega)
     rw[List.take_take,Nat.min_self] at this; exact this
    have l2:BO jA H 3 (.fptr 4 (l.map encV) i 2)=some (.n l[i].mode):=by rw[BP ag3 hi']; rfl
    have l1:BO jA H 3 (.fptr 4 (l.map encV) i 1)=some (.n l[i].width):=by rw[BP ag3 hi']; rfl
    refine OQ f0 f4 hi' l2 ?_;refine BG ?_ ?_<;>intro hm
    .have hm':¬l[i].mode=0:=by simpa [bne] using hm
     rw[if_neg hm'] at hbt;have hw:IntKind.i64.wrap (JU (l.take i)+l[i].width)=JU (l.take (i+1)):=by rw[hbt,wrap_i64 U U]
     refine NZ f0 f3 f4 hi' l1 hw (CW i) ?_;refine⟨n-1,U,i+1,U,hb2,A7,rfl,rfl,trivial⟩
    .have hm':l[i].mode=0:=by simpa [bne] using hm
     rw[if_pos hm',Int.add_zero] at hbt;refine AQ f4 (CW i) ?_;refine⟨n-1,U,i+1,U,hb2,A7,by rw[hbt]; exact f3,rfl,trivial⟩
  .refine Z ?_
   refine⟨f0,?_,trivial,PW vrE l fun j hj=>hb j U hj⟩;rw[jJ U] at f3; exact f3
 .rintro F H ⟨f0,f3,rfl,hz⟩
  have hall:=fstE_zero hz
  have hnm:∀v∈l,FK v.name=true∧v.name.size<=1048576:=by
   intro v hv;have:=hall v hv;unfold vrE at this;split at this
   .rename_i hn; exact⟨hn,hs v hv⟩
   .cases this
  have hv1:∀b,uK l=b->LD l=if b=true then 8 else if(l.any fun v=>PL l v.name)=true then 10 else if JU l>20 then 2 else 0:=fun b hb=>by
   unfold LD; rw[if_neg hlen,if_neg (by simp [hz]),hb]
  refine Z ?_;refine D9 2 (fun F' H'=>F' 0=.sl m 4 (l.map encV)∧F' 3=.n (JU l)∧H'=H∧uK l=false) (fun F' H'=>F' 2=.n (LD l)∧H'=H) ?_ ?_ ?_
  .refine BB (fun n F' H'=>∃i,n+i=l.length∧(∀(j:Nat) (hj:j<i) (hl:j<l.length),plc (l.take j) l[j].name<0)∧F' 0=.sl m 4 (l.map encV)∧F' 3=.n (JU l)∧F' 6=.n (i:Nat)∧H'=H) l.length ⟨0,A8,fun j hj=>absurd hj U,DW f0,DW f3,AC,rfl⟩ ?_
   clear f0 f3;rintro n F H ⟨i,hi,hb,f0,f3,f6,rfl⟩;refine AQ f0 f6 ?_;refine DU ?_ ?_<;>intro hi'
   .have l0:BO jA H 9 (.fptr 4 (l.map encV) i 0)=some (.str l[i].name):=by rw[BP ag9 hi']; rfl
    obtain⟨m',ht⟩:=A2K (h:=H) (m:=m) (Nat.le_of_lt hi');refine Z ?_;refine DJ AZ ?_;refine cK @aI f0 f6 ht hi' l0 ?_;refine⟨_,ZW G (l.take i) m' l[i].name _ (by rw[jU]; omega),?_⟩;refine Z ?_;refine BG ?_ ?_<;>intro he
    .refine Z ?_
     refine⟨?_,trivial⟩;rw[hv1 true (AA9 hi' (BL he))]; rfl
    .refine AQ f6 (CW i) ?_
     refine⟨n-1,U,i+1,U,fun j hj hl=>?_,f0,f3,rfl,trivial⟩;rcases jZ j i with h1|h1
     .exact hb j h1 hl
     .obtain rfl:j=i:=U
      simpa using he
   .refine Z ?_
    exact⟨f0,f3,trivial,qD fun j hj=>hb j U hj⟩
  .rintro F' H' ⟨g0,g3,rfl,hd⟩
   have hv2:=hv1 _ hd;refine AO g0 ?_;refine(ASM G l m _ hl hnm).uu ?_;refine BG ?_ ?_<;>intro hg
   .refine Z ?_
    exact⟨by rw[hv2,hg]; rfl,trivial⟩
   refine AO g3 ?_;refine BG ?_ ?_<;>intro hx
   .refine Z ?_
    refine⟨?_,trivial⟩;rw[hv2,hg,if_neg DK,if_neg DK,if_pos (BL hx)]
   .refine Z ?_
    refine⟨?_,trivial⟩;rw[hv2,hg,if_neg DK,if_neg DK,if_neg (BL hx)]
  .rintro F' H' ⟨g2,rfl⟩
   refine AO g2 ?_;exact G8
 .rintro F H ⟨f2,rfl⟩
  refine AO f2 ?_;exact G8
theorem A0A (hG:GOk G)(l:List Vr)(m:SM)(v:Vr)(c:Nat)(h:Hp)(hc:h[c]?=some (qF 1 [[.sl m 4 (l.map encV)]]))(hl:l.length<=1048576)(hs:v.name.size<=1048576)(hv:FK v.name=true):
  PCall (En G) 152 ([.agg (encV v)]++[.ptr c 0 0]) h (.bool (PL l v.name)):=by
 refine ACalls.pure0 rfl ?_;refine acT Tryz.func152 3 ?_;have hc':(h++[qF 4 [encV v]])[c]?=_:=AL hc;refine JZ @bxV @encV0 (FZ YQ hc') ?_;refine(AOA G hG l m v.name _ U hs hv).uu ?_;exact⟨trivial,_,rfl⟩
theorem AIC (hG:GOk G)(l:List Vr)(m:SM)(h:Hp)(hl:l.length<=1048576)(hs:∀v∈l,v.name.size<=1048576):PCall (En G) 78 [.sl m 4 (l.map encV)] h (.n (LD l)):=by
 refine ACalls.pure0 rfl ?_;refine acT Tryz.func78 2 ?_;have hb0:(h++[qF 1 [[.sl m 4 (l.map encV)]]])[h.length]?=some (qF 1 [[.sl m 4 (l.map encV)]]):=AX _ _;refine DI @mA @mA (FZ YQ hb0) ?_;refine BG ?_ ?_<;>intro hc
 .refine Z ?_
  exact⟨by unfold LD; rw[if_pos (by simp at hc; omega)],_,rfl⟩
 have hlen:¬l.length>16:=by simp at hc; omega
 refine AO (FZ YQ hb0) ?_;refine D9 0 (fun F H=>F 1=.ptr h.length 0 0∧H[h.length]?=some (qF 1 [[.sl m 4 (l.map encV)]])∧ext h H∧fstE vrE l=0) (fun F H=>F 2=.n (LD l)∧ext h H) ?_ ?_ ?_
 .refine BB (fun n F H=>∃i,n+i=l.length∧(∀(j:Nat) (hj:j<i) (hl:j<l.length),vrE l[j]=0)∧F 1=.ptr h.length 0 0∧F 11=.sl m 4 (l.map encV)∧F 12=.n (l.length:Nat)∧F 13=.n (i:Nat)∧H[h.length]?=some (qF 1 [[.sl m 4 (l.map encV)]])∧ext h H) l.length ⟨0,A8,fun j hj=>absurd hj U,AC,AC,AC,AC,hb0,⟨_,rfl⟩⟩ ?_
  rintro n F H ⟨i,hi,hb,f1,f11,f12,f13,hH,he⟩;refine AQ f12 f13 ?_;refine DU ?_ ?_<;>intro hi'
  .have hH1:(H++[qF 4 [encV l[i]]])[h.length]?=_:=AL hH
   have hx1:ext h (H++[qF 4 [encV l[i]]]):=he.app _;have ge:=AX H (qF 4 [encV l[i]]);have hsv:=hs _ (jH hi')
   have hstp:∀(n':Nat),vrE l[i]=0->∃m',m'<n∧∃k,m'+k=l.length∧(∀(j:Nat) (hj:j<k) (hl:j<l.length),vrE l[j]=0)∧k=i+1:=fun _ hz =>
    ⟨n-1,U,i+1,U,fun j hj hl=>by
     rcases jZ j i with h1|h1
     .exact hb j h1 hl
     .obtain rfl:j=i:=U
      exact hz,rfl⟩
   have hbad:vrE l[i]≠0->LD l=vrE l[i]:=fun hz=>by
    have:=SE vrE l i hi' (fun j hj=>hb j hj U) hz;unfold LD;rw[if_neg hlen,this,if_pos hz]
   simp -implicitDefEqProofs only[vQ,CJ,↓reduceIte,jC,enP,dE,YG,jQ,f11,f13,CG hi',ldV hi',al61,st61]
   generalize H++[qF 4 [encV l[i]]]=H1 at hH1 hx1 ge|-
   have l0:BO jA H1 9 (.ptr H.length 0 0)=some (.str l[i].name):=by rw[BH ag9 ge (row:=encV l[i]) rfl]; rfl
   have l1:BO jA H1 3 (.ptr H.length 0 1)=some (.n l[i].width):=by rw[BH ag3 ge (row:=encV l[i]) rfl]; rfl
   have l2:BO jA H1 3 (.ptr H.length 0 2)=some (.n l[i].mode):=by rw[BH ag3 ge (row:=encV l[i]) rfl]; rfl
   have l3:BO jA H1 3 (.ptr H.length 0 3)=some (.n l[i].value):=by rw[BH ag3 ge (row:=encV l[i]) rfl]; rfl
   generalize hv:l[i]=v at hsv hstp hbad l0 l1 l2 l3;refine AO l0 ?_;refine(ADL G hG v.name _ hsv).use ?_;cases hn:FK v.name
   .refine Z ?_
    have:vrE v=7:=by unfold vrE; rw[hn]; rfl
    exact⟨by rw[hbad (by rw[this]; decide),this],hx1⟩
   have fin:∀b,NL v=b->vrE v=if b=true then 1 else 0:=fun b hb=>by unfold vrE; rw[hn,hb]; rfl
   have yes:NL v=true->AV.int .i64 1=AV.int .i64 (LD l):=fun hb=>by
    have:=fin true hb;rw[hbad (by rw[this]; decide),this]; rfl
   refine Z ?_;refine DJ AZ ?_;cases b1:decide (v.width<1)
   case true =>
    refine AQ l1 b1 ?_;exact⟨yes (by unfold NL; rw[b1]; simp),hx1⟩
   cases b2:decide (v.width>8)
   case true =>
    refine DI l1 b1 b2 ?_;exact⟨yes (by unfold NL; rw[b2]; simp),hx1⟩
   cases b3:decide (v.mode<0)
   case true =>
    refine JL l1 l2 b1 b2 b3 ?_;exact⟨yes (by unfold NL; rw[b3]; simp),hx1⟩
   cases b4:decide (v.mode>2)
   case true =>
    refine MR l1 l2 b1 b2 b3 b4 ?_;exact⟨yes (by unfold NL; rw[b4]; simp),hx1⟩
   cases b5:decide (v.value<0)
   case true =>
    refine QZ l1 l2 l3 b1 b2 b3 b4 b5 ?_;exact⟨yes (by unfold NL; rw[b5]; simp),hx1⟩
   have hsh:=shl_w (BL b1) (BL b2);cases b6:decide (v.value≥2^v.width.toNat)
   case true =>
    refine aF l1 l2 l3 hsh b1 b2 b3 b4 b5 b6 ?_;exact⟨yes (by unfold NL; rw[b6]; simp),hx1⟩
   cases b7:(v.mode==0)<;>cases b8:(v.value==0)
   case false.false =>
    simp -implicitDefEqProofs only[vQ,IM,KI,Y7,XR,Q3,N7,rC,AWK,AMJ,NK,ED,CJ,LM,↓reduceIte,jC,jP,enP,VJ,VI,YF,l1,l2,l3,hsh,b1,b2,b3,b4,b5,b6,b7,b8,bne];exact⟨yes (by unfold NL; rw[b7,b8]; simp),hx1⟩
   all_goals
    have hz:=fin false (by unfold NL; rw[b1,b2,b3,b4,b5,b6,b7,b8]; rfl);obtain⟨m',hm,k,k1,k2,rfl⟩:=hstp 0 hz;simp -implicitDefEqProofs only[vQ,IM,KI,Y7,XR,ACG,Q3,ED,CJ,FM,LM,↓reduceIte,jC,jP,qV,enP,VJ,VI,YF,l1,l2,l3,hsh,b1,b2,b3,b4,b5,b6,b7,b8,bne,f13,CW i];exact⟨m',hm,i+1,k1,k2,A7,A7,A7,rfl,hH1,hx1⟩
  .refine Z ?_
   exact⟨f1,hH,he,PW vrE l fun j hj=>hb j U hj⟩
 .rintro F H ⟨f1,hH,he,hz⟩
  have hall:=fstE_zero hz
  have hnm:∀v∈l,FK v.name=true∧v.name.size<=1048576:=by
   intro v hv;have:=hall v hv;unfold vrE at this;split at this
   .rename_i hn; exact⟨hn,hs v hv⟩
   .cases this
  have hv1:∀b,uK l=b->LD l=if b=true then 8 else if(l.any fun v=>PL l v.name)=true then 10 else if JU l>20 then 2 else 0:=fun b hb=>by
   unfold LD; rw[if_neg hlen,if_neg (by simp [hz]),hb]
  refine AQ f1 (FZ YQ hH) ?_;refine D9 2 (fun F' H'=>F' 1=.ptr h.length 0 0∧F' 5=.n (JU l)∧H'[h.length]?=some (qF 1 [[.sl m 4 (l.map encV)]])∧ext h H'∧uK l=false) (fun F' H'=>F' 2=.n (LD l)∧ext h H') ?_ ?_ ?_
  .refine BB (fun n F' H'=>∃i,n+i=l.length∧(∀(j:Nat) (hj:j<i) (hl:j<l.length),plc (l.take j) l[j].name<0)∧F' 1=.ptr h.length 0 0∧F' 5=.n (JU (l.take i))∧F' 63=.sl m 4 (l.map encV)∧F' 64=.n (l.length:Nat)∧F' 65=.n (i:Nat)∧H'[h.length]?=some (qF 1 [[.sl m 4 (l.map encV)]])∧ext h H') l.length ⟨0,A8,fun j hj=>absurd hj U,DW f1,AC,AC,AC,AC,hH,he⟩ ?_
   clear f1 hH he;rintro n F H ⟨i,hi,hb,f1,f5,f63,f64,f65,hH,he⟩;refine AQ f64 f65 ?_;refine DU ?_ ?_<;>intro hi'
   .have hH1:(H++[qF 4 [encV l[i]]])[h.length]?=_:=AL hH
    have hx1:ext h (H++[qF 4 [encV l[i]]]):=he.app _;have ge:=AX H (qF 4 [encV l[i]]);simp -implicitDefEqProofs only[vQ,CJ,↓reduceIte,jC,enP,dE,jQ,f63,f65,CG hi',ldV hi',al61,st61]
    generalize H++[qF 4 [encV l[i]]]=H1 at hH1 hx1 ge|-
    have l0:BO jA H1 9 (.ptr H.length 0 0)=some (.str l[i].name):=by rw[BH ag9 ge (row:=encV l[i]) rfl]; rfl
    have l1:BO jA H1 3 (.ptr H.length 0 1)=some (.n l[i].width):=by rw[BH ag3 ge (row:=encV l[i]) rfl]; rfl
    have l2:BO jA H1 3 (.ptr H.length 0 2)=some (.n l[i].mode):=by rw[BH ag3 ge (row:=encV l[i]) rfl]; rfl
    refine DI f1 (FZ YQ hH1) l0 ?_;refine(index_prog G l m l[i].name _ U).uu ?_;refine BG ?_ ?_<;>intro hd
    .refine Z ?_
     refine⟨?_,hx1⟩;rw[hv1 true (AA9 hi' ((yA hi').1 (by simpa [bne] using hd)))]; rfl
    have hnd:plc (l.take i) l[i].name<0:=by
     rcases Int.lt_or_le (plc (l.take i) l[i].name) 0 with h1|h1
     .exact h1
     .exact absurd (by simpa [bne] using hd) ((yA hi').2 h1)
    have hb2:∀(j:Nat) (hj:j<i+1) (hl:j<l.length),plc (l.take j) l[j].name<0:=fun j hj hl=>by
     rcases jZ j i with h1|h1
     .exact hb j h1 hl
     .obtain rfl:j=i:=U
      exact hnd
    have hbt:=Z7 hi';have hbd:=mC l hall (i+1) U;refine AO l2 ?_;refine BG ?_ ?_<;>intro hm
    .have hm':¬l[i].mode=0:=by simpa [bne] using hm
     rw[if_neg hm'] at hbt;have hw:IntKind.i64.wrap (JU (l.take i)+l[i].width)=JU (l.take (i+1)):=by rw[hbt,wrap_i64 U U]
     refine JL f5 f65 l1 hw (CW i) ?_;exact⟨n-1,U,i+1,U,hb2,A7,rfl,A7,A7,rfl,hH1,hx1⟩
    .have hm':l[i].mode=0:=by simpa [bne] using hm
     rw[if_pos hm',Int.add_zero] at hbt;refine AQ f65 (CW i) ?_;exact⟨n-1,U,i+1,U,hb2,A7,by rw[hbt]; exact f5,A7,A7,rfl,hH1,hx1⟩
   .refine Z ?_
    refine⟨f1,?_,hH,he,qD fun j hj=>hb j U hj⟩;rw[jJ U] at f5; exact f5
  .rintro F' H' ⟨g1,g5,hH',he',hd⟩
   have hv2:=hv1 _ hd;refine AQ g1 (FZ YQ hH') ?_;refine(AGU G l m 152 [.ptr h.length 0 0] (fun v=>PL l v.name) H' U fun v hv=>A0A G hG l m v _ _ hH' hl (hnm v hv).2 (hnm v hv).1).uu ?_;refine BG ?_ ?_<;>intro hg
   .refine Z ?_
    exact⟨by rw[hv2,hg]; rfl,he'⟩
   refine AO g5 ?_;refine BG ?_ ?_<;>intro hx
   .refine Z ?_
    refine⟨?_,he'⟩;rw[hv2,hg,if_neg DK,if_neg DK,if_pos (BL hx)]
   .refine Z ?_
    refine⟨?_,he'⟩;rw[hv2,hg,if_neg DK,if_neg DK,if_neg (BL hx)]
  .rintro F' H' ⟨g2,he'⟩
   refine AO g2 ?_;exact⟨trivial,he'⟩
 .rintro F H ⟨f2,he⟩
  refine AO f2 ?_;exact⟨trivial,he⟩
theorem ltz_false (i:Nat):decide ((i:Int)<0)=false:=by rw[decide_eq_false_iff_not]; omega
theorem frzEx:Frz AY:=fun n h d x=>by
 rw[EY]; exact⟨rfl,rfl⟩
def growR_ren:Go.Shelf.Ren:=⟨fun|4=>98|n=>n,fun|22=>23|25=>79|3=>3|4=>4|9=>9|20=>20|0=>0|n=>n,fun|n=>n⟩
theorem growR:Go.Proofs.Lays8.n4 jA growR_ren := {
 mixed:=AZ,
 f4:=⟨Tryz.f98.name,by decide,Tryz.func98.trans (congrArg some AZ)⟩,
 t0:=Tryz.underlying0,
 a0:=Tryz.isAgg0,
 z0:=Tryz.sizeOf0,
 v0:=Tryz.zeroValue0,
 t3:=Tryz.underlying3,
 a3:=Tryz.isAgg3,
 z3:=Tryz.sizeOf3,
 v3:=Tryz.zeroValue3,
 t4:=Tryz.underlying4,
 a4:=Tryz.isAgg4,
 z4:=Tryz.sizeOf4,
 v4:=Tryz.zeroValue4,
 t9:=Tryz.underlying9,
 a9:=Tryz.isAgg9,
 z9:=Tryz.sizeOf9,
 v9:=Tryz.zeroValue9,
 t20:=Tryz.underlying20,
 a20:=Tryz.isAgg20,
 z20:=Tryz.sizeOf20,
 v20:=Tryz.zeroValue20,
 t22:=Tryz.underlying23,
 a22:=Tryz.isAgg23,
 z22:=Tryz.sizeOf23,
 v22:=Tryz.zeroValue23 }
theorem zc_size (z:Array Value)(n:Nat):(Builtin.zeroCells z n).size=n*z.size:=by simp [Builtin.zeroCells]
theorem grow_prog (n:Nat)(hn:n<=1048576)(h:Hp):ACalls (En G) 98 [.sl .nil 0 [],.n (n:Nat)] h fun v H=>(n=0∧v=.sl .nil 0 []∧H=h)∨(0<n∧v=.own h.length 0 0∧H=h++[qF 4 []]):=by
 refine⟨cok 98 G AZ,fun g w cargs S ha=>?_⟩;obtain⟨hsz,hget⟩:=ha
 obtain⟨cv0,cv1,rfl⟩:∃a b,cargs = #[a,b]:=by
  obtain⟨l⟩:=cargs
  match l,hsz with
  | [a,b],_=>exact⟨a,b,rfl⟩
 have r0:=(hget 0 _ cv0 rfl rfl).sl_inv;obtain rfl:=(hget 1 _ cv1 rfl rfl).int_inv
 have hnil:cv0=.slice none 0 0:=by
  cases r0 with
  | nil=>rfl
  | empty _ _ _ _ q=>exact absurd rfl q
  | sl _ _ _ _ _ _ _ _ _ _ _ q=>exact absurd rfl q
 subst hnil;rcases Nat.eq_zero_or_pos n with h0|h0
 .subst h0
  refine(Any8.slices_Grow_room growR none 0 0 0 w (jF _) U U (jF _)).mono ?_;rintro e w' ⟨rfl,rfl⟩;exact .inl ⟨_,_,g,h,rfl,.inl ⟨rfl,rfl,rfl⟩,Gh.le.refl g,S,.fro (.nil 0)⟩
 .have i0:Tryz.prog.info? 79=some Tryz.t79:=AZ
  have hz:Tryz.t79.zero.isSome=true:=AZ;obtain⟨z,hz⟩:=Option.isSome_iff_exists.1 hz;have hs:Tryz.t79.size=4:=AZ;have hb:Tryz.t79.bytes<=64:=jB AZ;have hmul:n*Tryz.t79.bytes<=1048576*64:=Nat.mul_le_mul hn hb
  have hzs:z.cells.size=4:=by
   have h1:(Tryz.t79.zero.map fun z=>z.cells.size)=some 4:=AZ;rw[hz] at h1; simpa using h1
  have hc:=Any8.slices_Grow_grow growR Tryz.t79 z i0 hz (by rw[hs]; omega) none 0 0 n [] w (jF _) U (by rw[jG]; omega) U A8 (fun _=>rfl) (fun a q=>by cases q);refine hc.mono ?_;rintro e w' ⟨rfl,rfl⟩;generalize hG:grownCap w (0+n) 0 (growR_ren.t 25)=cap;have hle:0+n<=cap:=hG▸grownCap_ge w _ _ _;have hgr:Grew w (w.drew.alloc (.cells ((#[]:Array Value)++Builtin.zeroCells z.cells (0+n-0)++Builtin.zeroCells z.cells (cap-(0+n))) (growR_ren.t 25))) (.cells ((#[]:Array Value)++Builtin.zeroCells z.cells (0+n-0)++Builtin.zeroCells z.cells (cap-(0+n))) (growR_ren.t 25) (0,0)):=⟨rfl,rfl,rfl,rfl⟩
  have hsize:((#[]:Array Value)++Builtin.zeroCells z.cells (0+n-0)++Builtin.zeroCells z.cells (cap-(0+n))).size=cap*4:=by
   simp only[Array.size_append,zc_size,hzs,List.size_toArray,List.length_nil]; omega
  generalize ((#[]:Array Value)++Builtin.zeroCells z.cells (0+n-0)++Builtin.zeroCells z.cells (cap-(0+n)))=c at hgr hsize;obtain⟨S',hle'⟩:=S.new (k:=4) (xs:=[]) hgr ⟨A8,fun i row h=>by simp at h,fun i j row v h=>by simp at h⟩;refine .inl ⟨_,_,_,_,rfl,.inr ⟨h0,rfl,rfl⟩,hle',S',?_⟩;exact Rep.own h.length 0 0 cap ⟨w.heap.size,0,4,c.size⟩ (by simp [Gh.adopt]) (Nat.zero_le _) (by simp only[hsize]; omega)
structure Yx where
 m:SM
 l:List Ex
def pX (y:Yx):List AV:=[.sl y.m 4 (y.l.map AY)]
theorem AOW (y:Yx):(pX y)[0]?=some (.sl y.m 4 (y.l.map AY)):=rfl
def fl (R:List Yx):List Ex:=(R.map Yx.l).flatten
theorem flat_take {R:List Yx}(hi:i<R.length):fl (R.take (i+1))=fl (R.take i)++R[i].l:=by
 unfold fl;rw[jW hi,qL,List.flatten_append]; simp
theorem flat_take_le (R:List Yx)(i:Nat):(fl (R.take i)).length<=(fl R).length:=by
 have:fl R=fl (R.take i)++fl (R.drop i):=by unfold fl; rw[<-List.flatten_append,<-qL,wC]
 rw[this,jS]; omega
def outK (h:Hp)(ys:List Ex)(v:AV)(H:Hp):Prop:=(v=.sl .nil 0 []∧ys=[])∨∃o,h.length<=o∧v=.own o 0 ys.length∧H[o]?=some (qF 4 (ys.map AY))
theorem outK_app {H:Hp}{xs ys:List Ex}{v:AV}(s:SM)(ho:outK h xs v H)(he:ext h H)(hl:xs.length+ys.length<=8388608):
  ∃v' H',EP jA true H 23 23 v (.sl s 4 (ys.map AY))=some (v',H')∧outK h (xs++ys) v' H'∧ext h H'∧(v=.sl .nil 0 []->ys=[]->v'=.sl .nil 0 []):=by
 cases ys with
 | nil =>
   refine⟨v,H,?_,by rw[jO]; exact ho,he,fun q _=>q⟩;have hcs:JF H (.sl s 4 [])=some (4,[]):=IE H s 4 [];rcases ho with⟨rfl,rfl⟩|⟨o,h2,rfl,h3⟩
   .simp [EP,U5,I8,RX,hcs,bump]
   .have hc:JF H (.own o 0 xs.length)=some (4,xs.map AY):=by rw[J6 h3 A8,zM,jJ A8]
    simp [EP,U5,I8,RX,hc,hcs,bump]
 | cons y ys =>
   have h1:(y::ys).map AY≠[]:=A8;rcases ho with⟨rfl,rfl⟩|⟨o,h2,rfl,h3⟩
   .exact⟨_,_,VL U5 I8 cN bZ (IE H s 4 ((y::ys).map AY)) h1 (I5 (by simp at hl|-; omega) U),.inr ⟨H.length,he.le,A8,A8⟩,he.app _,fun _ q=>by cases q⟩
   .have hc:JF H (.own o 0 xs.length)=some (4,xs.map AY):=by rw[J6 h3 A8,zM,jJ A8]
    exact⟨_,_,TK U5 I8 cN bZ hc (IE H s 4 ((y::ys).map AY)) h1 (I5 (by simp at hl|-; omega) U),.inr ⟨H.length,he.le,A8,A8⟩,(he.set h2 _).app _,fun q=>by cases q⟩
section
variable (G:Nat->AV)
theorem concat_prog (R:List Yx)(s:SM)(hR:R.length<=1048576)(hl:(fl R).length<=1048576)(h:Hp):PCall (En G) 45 [.sl s 1 (R.map pX)] h (.sl (Cov.nm (fl R)) 4 ((fl R).map AY)):=by
 refine KT frzEx ?_;refine acT Tryz.func45 2 ?_;refine Z ?_;refine D9 0 (fun F H'=>F 0=.sl s 1 (R.map pX)∧F 3=.n ((fl R).length:Nat)∧H'=h) (fun _ _=>False) ?_ ?_ (fun _ _ q=>q.elim)
 .refine BB (fun n F H'=>∃i,n+i=R.length∧F 0=.sl s 1 (R.map pX)∧F 3=.n ((fl (R.take i)).length:Nat)∧F 9=.sl s 1 (R.map pX)∧F 10=.n (R.length:Nat)∧F 11=.n (i:Nat)∧H'=h) R.length
   ⟨0,A8,AC,AC,AC,AC,AC,rfl⟩ ?_
  rintro n F H ⟨i,hi,f0,f3,f9,f10,f11,rfl⟩;refine AQ f10 f11 ?_;refine DU ?_ ?_<;>intro hi'
  .have hfl:=flat_take hi'
   have hle:=flat_take_le R (i+1);rw[hfl,jS] at hle;have hw:IntKind.i64.wrap ((((fl (R.take i)).length:Nat):Int)+((R[i].l.length:Nat):Int))=(((fl (R.take (i+1))).length:Nat):Int):=by rw[hfl,jS,wrap_i64 U U]; omega
   refine QZ f3 f9 f11 hi' @AOW hw @ltz_false (CW i) ?_;exact⟨n-1,U,i+1,U,A7,A7,A7,A7,A7,A7⟩
  .rw[jJ U] at f3
   refine Z ?_;exact⟨A7,A7,A7⟩
 rintro F H ⟨f0,f3,rfl⟩;refine AO f3 ?_;refine(grow_prog G (fl R).length hl H).mono ?_;intro v0 H0 hg
 have I0:outK H [] v0 H0∧Sm.ext H H0∧((fl R).length=0->v0=.sl .nil 0 []):=by
  rcases hg with⟨h0,rfl,rfl⟩|⟨h0,rfl,rfl⟩
  .exact⟨.inl ⟨rfl,rfl⟩,ext.rfl' _,fun _=>rfl⟩
  .exact⟨.inr ⟨H.length,jF _,rfl,AX _ _⟩,(ext.rfl' H).app _,fun q=>U⟩
 refine AO f0 ?_
 refine BB (fun n F H'=>∃i v,n+i=R.length∧F 6=v∧F 25=.sl s 1 (R.map pX)∧F 26=.n (R.length:Nat)∧F 27=.n (i:Nat)∧outK H (fl (R.take i)) v H'∧Sm.ext H H'∧((fl R).length=0->v=.sl .nil 0 [])) R.length
  ⟨0,v0,A8,AC,AC,AC,AC,by rw[qB]; exact I0.1,I0.2.1,I0.2.2⟩ ?_
 clear I0 hg f0 f3;rintro n F H' ⟨i,v,hi,f6,f25,f26,f27,ho,hx,hz⟩;refine AQ f26 f27 ?_;refine DU ?_ ?_<;>intro hi'
 .have hfl:=flat_take hi'
  have hle:=flat_take_le R (i+1);rw[hfl,jS] at hle;obtain⟨v',H2,ha,ho2,hx2,hn2⟩:=outK_app R[i].m ho hx (ys:=R[i].l) U;rw[<-hfl] at ho2;refine NZ f6 f25 f27 hi' @AOW ha (CW i) ?_;exact⟨n-1,U,i+1,v',U,A7,A7,A7,A7,ho2,hx2,fun q=>hn2 (hz q) (List.length_eq_zero_iff.1 U)⟩
 .rw[jJ U] at ho
  refine AO f6 ?_;refine⟨hx,?_⟩;rcases ho with⟨h1,h2⟩|⟨o,h1,h2,h3⟩
  .exact .inl ⟨h2,h1⟩
  .refine .inr ⟨fun q=>?_,o,h1,h2,h3⟩
   have:=hz (by rw[q]; rfl);rw[this] at h2; cases h2
end
def OI (x:Ex):Bool:=(x.op==3)||(x.op==24)
def O4 (l:List Vr)(x:Ex):Bool:=(x.op==2)&&decide (plc l x.name<0)
def mL (e:Ex):Bool:=(pre e).any OI
def gB (l:List Vr)(e:Ex):Bool:=(pre e).any (O4 l)
def plE (l:List Vr)(e:Ex):Int:=if mL e=true then 9 else if gB l e=true then 7 else 0
def xpE (l:List Vr)(e:Ex):Int:=if exE e≠0 then exE e else plE l e
def JW (l:List Vr)(xs:List Ex):Int:=fstE (xpE l) xs
theorem fstE_app {α:Type}(f:α->Int):∀xs ys:List α,fstE f (xs++ys)=if fstE f xs≠0 then fstE f xs else fstE f ys
 | [],ys=>by simp [fstE]
 | x::xs,ys=>by
   have ih:=fstE_app f xs ys;show(if f x≠0 then f x else fstE f (xs++ys))=if(if f x≠0 then f x else fstE f xs)≠0 then (if f x≠0 then f x else fstE f xs) else fstE f ys
   rw[ih];by_cases h:f x≠0
   .rw[if_pos h,if_pos h,if_pos h]
   .rw[if_neg h,if_neg h]
section
variable (G:Nat->AV)
theorem AEW (e:Ex):(pre e).length<=1048576->∀h:Hp,PCall (En G) 264 [.agg (AY e)] h (.bool (mL e)):=by
 induction e using Ex.induct with|h e ih=>?_
 intro hw h;have hpl:=congrArg wH (pre_eq e);rw[zH] at hpl;have hal:e.args.length<=1048576:=by have:=WJ e.args; omega
 have hev:mL e=(OI e||(E8 e.args).any OI):=by unfold mL; rw[pre_eq,List.any_cons]
 rw[hev];refine ACalls.pure0 rfl ?_;refine acT Tryz.func264 2 ?_;have ge:=AX h (qF 4 [AY e]);have hx:ext h (h++[qF 4 [AY e]]):=(ext.rfl' h).app _;refine AO @bxE ?_
 generalize h++[qF 4 [AY e]]=H1 at ge hx|-
 generalize h.length=eb at ge|-
 have l0:BO jA H1 3 (.ptr eb 0 0)=some (.n e.op):=by rw[BH ag3 ge (row:=AY e) rfl,JS]
 have l3:BO jA H1 23 (.ptr eb 0 3)=some (.sl e.m 4 (e.args.map AY)):=by rw[BH L6 ge (row:=AY e) rfl,XH]
 refine AO l0 ?_;cases b3:(e.op==3)
 case true =>
  refine AO b3 ?_;exact⟨by unfold OI; rw[b3]; rfl,hx⟩
 refine AQ b3 l0 ?_;cases b4:(e.op==24)
 case true =>
  refine AO b4 ?_;exact⟨by unfold OI; rw[b3,b4]; rfl,hx⟩
 have h0:OI e=false:=by unfold OI; rw[b3,b4]; rfl
 rw[h0,wL];refine AO b4 ?_;refine BB (fun k F H=>∃j,k+j=e.args.length∧F 1=.ptr eb 0 0∧F 3=.n (j:Nat)∧H=H1∧(E8 (e.args.take j)).any OI=false) e.args.length ⟨0,A8,AC,AC,rfl,rfl⟩ ?_;rintro k F H ⟨j,hj,f1,f3,rfl,hkn⟩;refine DI f1 f3 l3 ?_;refine DU ?_ ?_<;>intro hj'
 .have hmem:e.args[j]∈e.args:=jH hj'
  have hsplit:E8 e.args=E8 (e.args.take j)++(pre e.args[j]++E8 (e.args.drop (j+1))):=by
   rw[<-zC,<-LV _ _ hj',<-MX,wC]
  simp -implicitDefEqProofs only[vQ,CJ,↓reduceIte,jC,enP,PK,ZX,f1,f3,l3,CG hj',CY OZ I8 EF hj'];refine(ih e.args[j] hmem (by have:=QJ hmem; omega) H).uu ?_;refine BG ?_ ?_<;>intro hb
  .refine Z ?_
   refine⟨?_,hx⟩;have hb:(pre e.args[j]).any OI=true:=hb;rw[hsplit,List.any_append,List.any_append,hb]; simp
  .refine AQ f3 (CW j) ?_
   have hb:(pre e.args[j]).any OI=false:=hb;exact⟨k-1,U,j+1,U,A7,rfl,trivial,by rw[LV _ _ hj',List.any_append,hkn,hb]; rfl⟩
 .rw[jJ U] at hkn
  refine Z ?_;exact⟨by rw[hkn],hx⟩
theorem AAL (l:List Vr)(m:SM)(hl:l.length<=1048576)(e:Ex):(pre e).length<=1048576->∀h:Hp,PCall (En G) 265 [.sl m 4 (l.map encV),.agg (AY e)] h (.bool (gB l e)):=by
 induction e using Ex.induct with|h e ih=>?_
 intro hw h;have hpl:=congrArg wH (pre_eq e);rw[zH] at hpl;have hal:e.args.length<=1048576:=by have:=WJ e.args; omega
 have hev:gB l e=(O4 l e||(E8 e.args).any (O4 l)):=by unfold gB; rw[pre_eq,List.any_cons]
 rw[hev];refine ACalls.pure0 rfl ?_;refine acT Tryz.func265 4 ?_;have ge:=AX h (qF 4 [AY e]);have hx:ext h (h++[qF 4 [AY e]]):=(ext.rfl' h).app _;refine AO @bxE ?_
 generalize h++[qF 4 [AY e]]=H1 at ge hx|-
 generalize h.length=eb at ge|-
 have l0:BO jA H1 3 (.ptr eb 0 0)=some (.n e.op):=by rw[BH ag3 ge (row:=AY e) rfl,JS]
 have l2:BO jA H1 9 (.ptr eb 0 2)=some (.str e.name):=by rw[BH ag9 ge (row:=AY e) rfl,QT]
 have l3:BO jA H1 23 (.ptr eb 0 3)=some (.sl e.m 4 (e.args.map AY)):=by rw[BH L6 ge (row:=AY e) rfl,XH]
 refine AO l0 ?_;refine P7 (fun F H=>F 0=.sl m 4 (l.map encV)∧F 3=.ptr eb 0 0∧F 15=.bool (O4 l e)∧H=H1) ?_ ?_
 .cases b2:(e.op==2)
  .refine AO b2 ?_
   exact⟨trivial,trivial,by unfold O4; rw[b2]; rfl,trivial⟩
  .refine AQ b2 l2 ?_
   refine(ZW G l m e.name H1 U).use ?_;refine AO b2 ?_;exact⟨trivial,trivial,by unfold O4; rw[b2]; rfl,trivial⟩
 rintro F H ⟨f0,f3,f15,rfl⟩;refine AO f15 ?_;refine BG ?_ ?_<;>intro hb
 .refine Z ?_
  exact⟨by rw[hb]; rfl,hx⟩
 rw[hb,wL];refine Z ?_;refine BB (fun k F H'=>∃j,k+j=e.args.length∧F 0=.sl m 4 (l.map encV)∧F 3=.ptr eb 0 0∧F 5=.n (j:Nat)∧H'=H∧(E8 (e.args.take j)).any (O4 l)=false) e.args.length ⟨0,A8,DW f0,DW f3,AC,rfl,rfl⟩ ?_;clear f0 f3 f15;rintro k F H ⟨j,hj,f0,f3,f5,rfl,hkn⟩;refine DI f3 f5 l3 ?_;refine DU ?_ ?_<;>intro hj'
 .have hmem:e.args[j]∈e.args:=jH hj'
  have hsplit:E8 e.args=E8 (e.args.take j)++(pre e.args[j]++E8 (e.args.drop (j+1))):=by
   rw[<-zC,<-LV _ _ hj',<-MX,wC]
  simp -implicitDefEqProofs only[vQ,CJ,↓reduceIte,jC,enP,PK,ZX,f0,f3,f5,l3,CG hj',CY OZ I8 EF hj'];refine(ih e.args[j] hmem (by have:=QJ hmem; omega) H).uu ?_;refine BG ?_ ?_<;>intro hb
  .refine Z ?_
   refine⟨?_,hx⟩;have hb:(pre e.args[j]).any (O4 l)=true:=hb;rw[hsplit,List.any_append,List.any_append,hb]; simp
  .refine AQ f5 (CW j) ?_
   have hb:(pre e.args[j]).any (O4 l)=false:=hb;exact⟨k-1,U,j+1,U,A7,A7,rfl,trivial,by rw[LV _ _ hj',List.any_append,hkn,hb]; rfl⟩
 .rw[jJ U] at hkn
  refine Z ?_;exact⟨by rw[hkn],hx⟩
theorem AJB (l:List Vr)(m:SM)(hl:l.length<=1048576)(e:Ex)(hw:(pre e).length<=1048576)(h:Hp):PCall (En G) 194 [.sl m 4 (l.map encV),.agg (AY e)] h (.n (plE l e)):=by
 refine ACalls.pure0 rfl ?_;refine acT Tryz.func194 4 ?_;refine AQ @bxE @ldE ?_;refine(AEW G e hw _).uu ?_;refine BG ?_ ?_<;>intro hb
 .refine Z ?_
  exact⟨by unfold plE; rw[hb]; rfl,_,rfl⟩
 refine AO @ldE ?_;refine(AAL G l m hl e hw _).uu ?_;refine BG ?_ ?_<;>intro hf
 .refine Z ?_
  exact⟨by unfold plE; rw[hb,hf]; rfl,_,rfl⟩
 .refine Z ?_
  exact⟨by unfold plE; rw[hb,hf]; rfl,_,rfl⟩
theorem VR (l:List Vr)(m:SM)(hl:l.length<=1048576)(xs:List Ex)(s:SM)(hx:xs.length<=1048576)(hw:∀e∈xs,wt e<=1048576)(h:Hp):PCall (En G) 105 [.sl m 4 (l.map encV),.sl s 4 (xs.map AY)] h (.n (JW l xs)):=by
 refine acT Tryz.func105 4 ?_;refine Z ?_;refine BB (fun n F H=>∃i,n+i=xs.length∧(∀(j:Nat) (hj:j<i) (hl:j<xs.length),xpE l xs[j]=0)∧F 0=.sl m 4 (l.map encV)∧F 1=.sl s 4 (xs.map AY)∧F 5=.n (i:Nat)∧H=h) xs.length ⟨0,A8,fun j hj=>absurd hj U,AC,AC,AC,rfl⟩ ?_;rintro n F H ⟨i,hi,hb,f0,f1,f5,rfl⟩;refine AQ f1 f5 ?_;refine DU ?_ ?_<;>intro hi'
 .have hwi:=hw _ (jH hi')
  have hbad:xpE l xs[i]≠0->JW l xs=xpE l xs[i]:=fun hz=>SE (xpE l) xs i hi' (fun j hj=>hb j hj U) hz
  simp -implicitDefEqProofs only[vQ,CJ,↓reduceIte,jC,enP,PK,f1,f5,CG hi',CY OZ I8 EF hi'];refine(fA G xs[i] H hwi).uu ?_;refine BG ?_ ?_<;>intro he
  .have he':exE xs[i]≠0:=by simpa [bne] using he
   have hxp:xpE l xs[i]=exE xs[i]:=by unfold xpE; rw[if_pos he']
   refine Z ?_;exact⟨by rw[hbad (by rw[hxp]; exact he'),hxp],trivial⟩
  have he':exE xs[i]=0:=by simpa [bne] using he
  have hxp:xpE l xs[i]=plE l xs[i]:=by unfold xpE; rw[if_neg (by simp [he'])]
  simp -implicitDefEqProofs only[vQ,CJ,↓reduceIte,jC,enP,PK,f0,f1,f5,CG hi',CY OZ I8 EF hi'];refine(AJB G l m hl xs[i] (by have:=VA xs[i]; omega) H).uu ?_;refine BG ?_ ?_<;>intro hp
  .have hp':plE l xs[i]≠0:=by simpa [bne] using hp
   refine Z ?_;exact⟨by rw[hbad (by rw[hxp]; exact hp'),hxp],trivial⟩
  .have hp':plE l xs[i]=0:=by simpa [bne] using hp
   refine AQ f5 (CW i) ?_;refine⟨n-1,U,i+1,U,fun j hj hl=>?_,A7,A7,rfl,trivial⟩;rcases jZ j i with h1|h1
   .exact hb j h1 hl
   .obtain rfl:j=i:=U
    rw[hxp]; exact hp'
 .refine Z ?_
  exact⟨by rw[JW,PW (xpE l) xs fun j hj=>hb j U hj],trivial⟩
end
theorem APZ (e:Ex):decide (((nmL [3,24] [] (pre e)).length:Int)>0)=mL e:=by
 have h:=aY (fun _=>false) [3,24] (pre e) []
 have h1:(nmL [3,24] [] (pre e)).all (fun _=>false)=decide ((nmL [3,24] [] (pre e)).length=0):=by
  cases nmL [3,24] [] (pre e)<;>simp
 rw[h1] at h;unfold mL
 have h2:(pre e).any OI = !((pre e).all fun e => !Rk.hasB [3,24] e.op||false):=by
  rw[List.not_all_eq_any_not];congr 1;funext x;unfold OI Rk.hasB;rw[wI];simp;constructor
  .rintro (h|h)<;>simp [h]
  .rintro (h|h)<;>simp [h]
 rw[h2];simp only[List.all_nil,wM] at h;rw[<-h];cases nmL [3,24] [] (pre e)<;>simp
theorem AOG (l:List Vr)(e:Ex):(nmL [2] [] (pre e)).any (fun n=>decide (plc l n<0))=gB l e:=by
 have h:=aY (fun n => !decide (plc l n<0)) [2] (pre e) [];simp only[List.all_nil,wM] at h;rw[<-Bool.not_inj_iff,List.not_any_eq_all_not,h];unfold gB;rw[List.not_any_eq_all_not];congr 1;funext x;unfold O4 Rk.hasB;rw[wI];simp;constructor
 .rintro (h1|h1)
  .exact .inl fun e=>h1 e.symm
  .exact .inr h1
 .rintro (h1|h1)
  .exact .inl fun e=>h1 e.symm
  .exact .inr h1
theorem APJ (h:Hp)(a b:SM)(x y:List (List AV)):C9 jA false h 100 2 [(0,.sl a 4 x),(1,.sl b 4 y)]=some (.sl .full 1 [[.sl a 4 x],[.sl b 4 y]],h):=AZ
section
variable (G:Nat->AV)
theorem AZ9 (p:Pr)(n:ByteArray)(c:Nat)(h:Hp)(hc:h[c]?=some (qF 5 [CX p]))(hl:p.vars.length<=1048576):PCall (En G) 157 ([.str n]++[.ptr c 0 0]) h (.bool (decide (plc p.vars n<0))):=by
 refine acT Tryz.func157 3 ?_;have l0:BO jA h 22 (.ptr c 0 0)=some (.sl p.vm 4 (p.vars.map encV)):=by rw[BH YQ hc (row:=CX p) rfl]; rfl
 refine AO l0 ?_;refine(index_prog G p.vars p.vm n h U).uu ?_;exact G8
theorem AD7 (hG:GOk G)(p:Pr)(hl:p.vars.length<=1048576)(hx:p.hard.length+p.soft.length<=1048576)(hw:∀e∈p.hard++p.soft,wt e<=1048576)(h:Hp):PCall (En G) 80 [.agg (CX p)] h (.n (JW p.vars (p.hard++p.soft))):=by
 refine ACalls.pure0 rfl ?_;refine acT Tryz.func80 2 ?_;have ge:=AX h (qF 5 [CX p]);have hxx:ext h (h++[qF 5 [CX p]]):=(ext.rfl' h).app _;refine AQ @dN @SS ?_
 generalize h++[qF 5 [CX p]]=H1 at ge hxx|-
 generalize h.length=eb at ge|-
 have l1:BO jA H1 23 (.ptr eb 0 1)=some (.sl p.hm 4 (p.hard.map AY)):=by rw[BH L6 ge (row:=CX p) rfl]; rfl
 have l2:BO jA H1 23 (.ptr eb 0 2)=some (.sl p.sm 4 (p.soft.map AY)):=by rw[BH L6 ge (row:=CX p) rfl]; rfl
 refine EO @lD l1 l2 APJ ?_;have hfl:fl [⟨p.hm,p.hard⟩,⟨p.sm,p.soft⟩]=p.hard++p.soft:=by simp [fl]
 have hcc:=concat_prog G [⟨p.hm,p.hard⟩,⟨p.sm,p.soft⟩] .full A8 (by rw[hfl,jS]; omega) H1;rw[hfl] at hcc;refine hcc.use ?_;have hxl:(p.hard++p.soft).length<=1048576:=by rw[jS]; omega
 generalize p.hard++p.soft=xs at hw hxl|-
 refine Z ?_;refine BB (fun n F H=>∃i,n+i=xs.length∧(∀(j:Nat) (hj:j<i) (hl:j<xs.length),xpE p.vars xs[j]=0)∧F 1=.ptr eb 0 0∧F 11=.sl (nm xs) 4 (xs.map AY)∧F 12=.n (xs.length:Nat)∧F 13=.n (i:Nat)∧H[eb]?=some (qF 5 [CX p])∧ext h H) xs.length ⟨0,A8,fun j hj=>absurd hj U,AC,AC,AC,AC,ge,hxx⟩ ?_;clear ge hxx l1 l2;rintro n F H ⟨i,hi,hb,f1,f11,f12,f13,ge,hxx⟩;refine AQ f12 f13 ?_;refine DU ?_ ?_<;>intro hi'
 .have hwi:=hw _ (jH hi')
  have hbad:xpE p.vars xs[i]≠0->JW p.vars xs=xpE p.vars xs[i]:=fun hz=>SE (xpE p.vars) xs i hi' (fun j hj=>hb j hj U) hz
  have ge1:(H++[qF 4 [AY xs[i]]])[eb]?=_:=AL ge;have hx1:ext h (H++[qF 4 [AY xs[i]]]):=hxx.app _;have gE:=AX H (qF 4 [AY xs[i]]);have al40:F9 jA H 79=some (.ptr H.length 0 0,H++[qF 4 [[.n 0,.n 0,.str ⟨#[]⟩,.sl .nil 0 []]]]):=FC (row:=[.n 0,.n 0,.str ⟨#[]⟩,.sl .nil 0 []]) AZ
  have st40:DX jA (H++[qF 4 [[.n 0,.n 0,.str ⟨#[]⟩,.sl .nil 0 []]]]) 79 (.ptr H.length 0 0) (.agg (AY xs[i]))=some (H++[qF 4 [AY xs[i]]]):=by
   have hle:(AY xs[i]).length=4:=EF _;rw[IY (cs:=AY xs[i]) (row:=[.n 0,.n 0,.str ⟨#[]⟩,.sl .nil 0 []]) (PI (by rw[EY]; rfl)) (by rw[hle]; exact I8) (AX _ _) (by rw[hle]; exact jF 4),KH]
   have:splice [.n 0,.n 0,.str ⟨#[]⟩,.sl .nil 0 []] 0 (AY xs[i])=AY xs[i]:=by
    unfold splice; rw[qB,List.drop_eq_nil_of_le (by rw[hle]; exact jF 4)]; simp
   rw[this]
  simp -implicitDefEqProofs only[vQ,CJ,↓reduceIte,jC,enP,PK,jQ,f11,f13,CG hi',CY OZ I8 EF hi',al40,st40]
  generalize H++[qF 4 [AY xs[i]]]=H1 at ge1 hx1 gE|-
  refine AO (IW gE) ?_;refine(NT G hG xs[i] _ hwi).uu ?_;refine BG ?_ ?_<;>intro he
  .have he':exE xs[i]≠0:=by simpa [bne] using he
   have hxp:xpE p.vars xs[i]=exE xs[i]:=by unfold xpE; rw[if_pos he']
   refine Z ?_;exact⟨by rw[hbad (by rw[hxp]; exact he'),hxp],hx1⟩
  have he':exE xs[i]=0:=by simpa [bne] using he
  have hxp:xpE p.vars xs[i]=plE p.vars xs[i]:=by unfold xpE; rw[if_neg (by simp [he'])]
  refine AO (IW gE) ?_;refine(XT G xs[i] hwi _).use ?_;refine AO @APZ ?_;refine BG ?_ ?_<;>intro ha
  .have hpl:plE p.vars xs[i]=9:=by unfold plE; rw[if_pos ha]
   refine Z ?_;exact⟨by rw[hbad (by rw[hxp,hpl]; decide),hxp,hpl],hx1⟩
  refine AO (IW gE) ?_;refine(aD G xs[i] hwi _).use ?_;refine AO f1 ?_
  have hnl:(nmL [2] [] (pre xs[i])).length<=1048576:=by
   have h1:=X5 [2] (pre xs[i]) [];have h2:=VA xs[i];simp at h1; omega
  refine(ASF G (nmL [2] [] (pre xs[i])) (nm (nmL [2] [] (pre xs[i]))) 157 [.ptr eb 0 0] (fun n=>decide (plc p.vars n<0)) H1 U fun n _=>AZ9 G p n eb _ ge1 hl).use ?_;refine AO @AOG ?_;refine BG ?_ ?_<;>intro hf
  .have hpl:plE p.vars xs[i]=7:=by unfold plE; rw[ha,hf]; rfl
   refine Z ?_;exact⟨by rw[hbad (by rw[hxp,hpl]; decide),hxp,hpl],hx1⟩
  .have hpl:plE p.vars xs[i]=0:=by unfold plE; rw[ha,hf]; rfl
   refine AQ f13 (CW i) ?_;refine⟨n-1,U,i+1,U,fun j hj hl=>?_,A7,A7,A7,rfl,ge1,hx1⟩;rcases jZ j i with h1|h1
   .exact hb j h1 hl
   .obtain rfl:j=i:=U
    rw[hxp]; exact hpl
 .refine Z ?_
  exact⟨by rw[JW,PW (xpE p.vars) xs fun j hj=>hb j U hj],hxx⟩
end
def O9 (l:List Vr)(i:Int):Bool:=decide (0<=i)&&(decide (i<l.length)&&(match l[i.toNat]? with|some v => !(v.mode==0)|none=>false))
def mH (x:Wg):Bool:=decide (x.lo<0)||decide (x.lo>x.hi)||decide (x.hi>65535)||decide (x.w<0)||decide (x.w>1000)
def dsE (l:List Vr)(ds:List Ds)(d:Ds):Int:=if O9 l d.var=true then if ds.any (fun x=>x.var==d.var)=true then 8 else if d.ws.length>16 then 2 else if d.ws.any mH=true then 1 else 0 else 1
def dsI (l:List Vr)(ds:List Ds)(i:Nat):Int:=match ds[i]? with|some d=>dsE l (ds.take i) d|none=>0
def MN (l:List Vr)(ds:List Ds):Int:=fstE (dsI l ds) (zI ds.length)
theorem lQ {l:List Vr}{ds:List Ds}(hi:i<ds.length):dsI l ds i=dsE l (ds.take i) ds[i]:=by unfold dsI; rw[jI hi]
theorem lR {l:List Vr}{ds:List Ds}(hi:i<ds.length)(hb:∀j,j<i->dsI l ds j=0)(h:dsE l (ds.take i) ds[i]≠0):MN l ds=dsE l (ds.take i) ds[i]:=by
 have:=SE (dsI l ds) (zI ds.length) i (BL hi) (fun j hj=>by rw[List.getElem_range]; exact hb j hj) (by rw[List.getElem_range,lQ hi]; exact h);rw[List.getElem_range,lQ hi] at this;exact this
theorem fC {l:List Vr}{ds:List Ds}(hb:∀j,j<ds.length->dsI l ds j=0):MN l ds=0 :=
 PW _ _ fun j hj=>by rw[List.getElem_range]; exact hb j (BL hj)
theorem XZ {l:List Vr}(hn:n<l.length):O9 l (n:Nat) = !(l[n].mode==0):=by
 unfold O9;rw[decide_eq_true U,decide_eq_true U,qN,jI hn]; rfl
theorem A3U (h:Hp):F9 jA h 140=some (.ptr h.length 0 0,h++[qF 2 [[.n 0,.sl .nil 0 []]]]):=FC (row:=[.n 0,.sl .nil 0 []]) AZ
theorem A2Q (h:Hp)(v:Ds):DX jA (h++[qF 2 [[.n 0,.sl .nil 0 []]]]) 140 (.ptr h.length 0 0) (.agg (IJ v))=some (h++[qF 2 [IJ v]]):=by
 rw[IY (cs:=IJ v) (row:=[.n 0,.sl .nil 0 []]) rfl eO (AX _ _) (by exact jF 2),KH];rfl
theorem A3R (h:Hp):F9 jA h 240=some (.ptr h.length 0 0,h++[qF 4 [[.n 0,.n 0,.n 0,.bool false]]]):=FC (row:=[.n 0,.n 0,.n 0,.bool false]) AZ
theorem A2O (h:Hp)(v:Wg):DX jA (h++[qF 4 [[.n 0,.n 0,.n 0,.bool false]]]) 240 (.ptr h.length 0 0) (.agg (IZ v))=some (h++[qF 4 [IZ v]]):=by
 rw[IY (cs:=IZ v) (row:=[.n 0,.n 0,.n 0,.bool false]) rfl AFT (AX _ _) (by exact jF 4),KH];rfl
theorem A2J {l:List Ds}{m:SM}(hi:i<=l.length):∃m',IQ jA h 24 (.sl m 2 (l.map IJ)) none (some (.n (i:Nat))) none=some (.sl m' 2 ((l.take i).map IJ)) :=
 ⟨AKN m i (l.map IJ).length,by rw[AFV A2H eO (by rw[jL]; exact hi),List.map_take]⟩
section
variable (G:Nat->AV)
theorem WG (p:Pr)(i:Int)(_:p.vars.length<=1048576)(h:Hp):PCall (En G) 158 [.agg (CX p),.n i] h (.bool (O9 p.vars i)):=by
 refine ACalls.pure0 rfl ?_;refine acT Tryz.func158 4 ?_;have l0:BO jA (h++[qF 5 [CX p]]) 22 (.ptr h.length 0 0)=some (.sl p.vm 4 (p.vars.map encV)):=by rw[BH YQ (AX _ _) (row:=CX p) rfl]; rfl
 refine AO @SS ?_;cases b1:decide (i≥0)
 .refine AO b1 ?_
  refine⟨?_,_,rfl⟩;unfold O9; rw[show decide (0<=i)=false from b1]; rfl
 have h0:0<=i:=BL b1;obtain⟨n,rfl⟩:=Int.eq_ofNat_of_zero_le h0;refine AQ b1 l0 ?_;cases b2:decide (((n:Nat):Int)<((p.vars.length:Nat):Int))
 .refine AO b2 ?_
  refine⟨?_,_,rfl⟩;unfold O9; rw[b2]; simp
 have hn:n<p.vars.length:=BL b2;have l2:BO jA (h++[qF 5 [CX p]]) 3 (.fptr 4 (p.vars.map encV) n 2)=some (.n p.vars[n].mode):=by rw[BP ag3 hn]; rfl
 simp -implicitDefEqProofs only[vQ,ED,RD,CJ,GK,↓reduceIte,jC,enP,dE,tV,VI,b2,l0,CG hn,l2,bne];exact⟨by rw[XZ hn],_,rfl⟩
theorem AZ8 (x d:Ds)(c:Nat)(h:Hp)(hc:h[c]?=some (qF 2 [IJ d])):PCall (En G) 160 ([.agg (IJ x)]++[.ptr c 0 0]) h (.bool (x.var==d.var)):=by
 refine ACalls.pure0 rfl ?_;refine acT Tryz.func160 3 ?_;have hc':(h++[qF 2 [IJ x]])[c]?=_:=AL hc;have l0:BO jA (h++[qF 2 [IJ x]]) 3 (.ptr h.length 0 0)=some (.n x.var):=by rw[BH ag3 (AX _ _) (row:=IJ x) rfl]; rfl
 have l1:BO jA (h++[qF 2 [IJ x]]) 3 (.ptr c 0 0)=some (.n d.var):=by rw[BH ag3 hc' (row:=IJ d) rfl]; rfl
 refine DI @bxD l0 l1 ?_;exact⟨trivial,_,rfl⟩
theorem AZ6 (x:Wg)(h:Hp):PCall (En G) 239 ([.agg (IZ x)]++[]) h (.bool (mH x)):=by
 refine ACalls.pure0 rfl ?_;refine acT Tryz.func239 2 ?_;have l0:BO jA (h++[qF 4 [IZ x]]) 3 (.ptr h.length 0 0)=some (.n x.lo):=by rw[BH ag3 (AX _ _) (row:=IZ x) rfl]; rfl
 have l1:BO jA (h++[qF 4 [IZ x]]) 3 (.ptr h.length 0 1)=some (.n x.hi):=by rw[BH ag3 (AX _ _) (row:=IZ x) rfl]; rfl
 have l2:BO jA (h++[qF 4 [IZ x]]) 3 (.ptr h.length 0 2)=some (.n x.w):=by rw[BH ag3 (AX _ _) (row:=IZ x) rfl]; rfl
 refine AO @A0U ?_;unfold mH;cases b1:decide (x.lo<0)
 case true =>
  refine AQ l0 b1 ?_;exact⟨trivial,_,rfl⟩
 cases b2:decide (x.lo>x.hi)
 case true =>
  refine EO l0 l1 b1 b2 ?_;exact⟨trivial,_,rfl⟩
 cases b3:decide (x.hi>65535)
 case true =>
  refine JL l0 l1 b1 b2 b3 ?_;exact⟨trivial,_,rfl⟩
 cases b4:decide (x.w<0)
 case true =>
  refine QZ @bM l0 l1 l2 b1 b2 b3 b4 ?_;exact⟨trivial,_,rfl⟩
 cases b5:decide (x.w>1000)
 all_goals
  refine VW @bM l0 l1 l2 b1 b2 b3 b4 b5 ?_;exact⟨trivial,_,rfl⟩
theorem rW (xs:List Wg)(m:SM)(hl:xs.length<=1048576)(h:Hp):PCall (En G) 161 [.sl m 4 (xs.map IZ)] h (.bool (!(xs.any mH))):=by
 refine acT Tryz.func161 2 ?_;refine Z ?_;refine(AWS G xs m 239 [] mH h U fun x _=>AZ6 G x h).uu ?_;exact G8
theorem AEC (p:Pr)(hl:p.vars.length<=1048576)(hd:p.dists.length<=1048576)(hw:∀d∈p.dists,d.ws.length<=1048576)(h:Hp):PCall (En G) 82 [.agg (CX p)] h (.n (MN p.vars p.dists)):=by
 refine ACalls.pure0 rfl ?_;refine acT Tryz.func82 2 ?_;have ge:=AX h (qF 5 [CX p]);have hxx:ext h (h++[qF 5 [CX p]]):=(ext.rfl' h).app _;refine AO @SS ?_
 generalize h++[qF 5 [CX p]]=H1 at ge hxx|-
 generalize h.length=eb at ge|-
 have l3:BO jA H1 24 (.ptr eb 0 3)=some (.sl p.dm 2 (p.dists.map IJ)):=by rw[BH AP5 ge (row:=CX p) rfl]; rfl
 refine AO l3 ?_;refine BB (fun n F H=>∃i,n+i=p.dists.length∧(∀(j:Nat),j<i->dsI p.vars p.dists j=0)∧F 1=.ptr eb 0 0∧F 6=.sl p.dm 2 (p.dists.map IJ)∧F 7=.n (p.dists.length:Nat)∧F 8=.n (i:Nat)∧H[eb]?=some (qF 5 [CX p])∧ext h H) p.dists.length ⟨0,A8,fun j hj=>absurd hj U,AC,AC,AC,AC,ge,hxx⟩ ?_;clear ge hxx l3;rintro n F H ⟨i,hi,hb,f1,f6,f7,f8,ge,hxx⟩;refine AQ f7 f8 ?_;refine DU ?_ ?_<;>intro hi'
 .have hwi:=hw _ (jH hi')
  have hbad:=lR hi' hb;have hat:=lQ (l:=p.vars) hi';have ge1:(H++[qF 2 [IJ p.dists[i]]])[eb]?=_:=AL ge;have hx1:ext h (H++[qF 2 [IJ p.dists[i]]]):=hxx.app _;have gE:=AX H (qF 2 [IJ p.dists[i]]);simp -implicitDefEqProofs only[vQ,CJ,↓reduceIte,jC,enP,AJW,jQ,f6,f8,CG hi',CY AHW eO QU hi',A3U,A2Q]
  generalize H++[qF 2 [IJ p.dists[i]]]=H1 at ge1 hx1 gE|-
  have lp:BO jA H1 27 (.ptr eb 0 0)=some (.agg (CX p)):=by rw[EH mP fR ge1 (row:=CX p) rfl (by rw[NV]; exact jF 5)]; rfl
  have l3:BO jA H1 24 (.ptr eb 0 3)=some (.sl p.dm 2 (p.dists.map IJ)):=by rw[BH AP5 ge1 (row:=CX p) rfl]; rfl
  have d0:BO jA H1 3 (.ptr H.length 0 0)=some (.n p.dists[i].var):=by rw[BH ag3 gE (row:=IJ p.dists[i]) rfl]; rfl
  have d1:BO jA H1 120 (.ptr H.length 0 1)=some (.sl p.dists[i].wm 4 (p.dists[i].ws.map IZ)):=by rw[BH AHX gE (row:=IJ p.dists[i]) rfl]; rfl
  obtain⟨m',ht⟩:=A2J (h:=H1) (m:=p.dm) (Nat.le_of_lt hi');refine DI f1 lp d0 ?_;refine(WG G p _ hl _).use ?_;cases b1:O9 p.vars p.dists[i].var
  .have he:dsE p.vars (p.dists.take i) p.dists[i]=1:=by unfold dsE; rw[b1]; rfl
   refine Z ?_;exact⟨by rw[hbad (by rw[he]; decide),he],hx1⟩
  refine DI f1 l3 ht ?_;refine(AN7 G (p.dists.take i) m' 160 [.ptr H.length 0 0] (fun x=>x.var==p.dists[i].var) H1 (by rw[jU]; omega) fun x _=>AZ8 G x p.dists[i] _ _ gE).use ?_;cases b2:(p.dists.take i).any fun x=>x.var==p.dists[i].var
  case true =>
   have he:dsE p.vars (p.dists.take i) p.dists[i]=8:=by unfold dsE; rw[b1,b2]; rfl
   refine Z ?_;exact⟨by rw[hbad (by rw[he]; decide),he],hx1⟩
  refine AQ yV d1 ?_;refine BG ?_ ?_<;>intro b3
  .have he:dsE p.vars (p.dists.take i) p.dists[i]=2:=by unfold dsE; rw[b1,b2,if_pos rfl,if_neg DK,if_pos (by simp at b3; omega)]
   refine Z ?_;exact⟨by rw[hbad (by rw[he]; decide),he],hx1⟩
  refine AO d1 ?_;refine(rW G p.dists[i].ws p.dists[i].wm hwi _).use ?_;cases b4:p.dists[i].ws.any mH
  case true =>
   have he:dsE p.vars (p.dists.take i) p.dists[i]=1:=by unfold dsE; rw[b1,b2,if_pos rfl,if_neg DK,if_neg (by simp at b3; omega),b4]; rfl
   refine Z ?_;exact⟨by rw[hbad (by rw[he]; decide),he],hx1⟩
  have he:dsE p.vars (p.dists.take i) p.dists[i]=0:=by unfold dsE; rw[b1,b2,if_pos rfl,if_neg DK,if_neg (by simp at b3; omega),b4]; rfl
  refine AQ f8 (CW i) ?_;refine⟨n-1,U,i+1,U,fun j hj=>?_,A7,A7,A7,rfl,ge1,hx1⟩;rcases jZ j i with h1|h1
  .exact hb j h1
  .obtain rfl:j=i:=U
   rw[hat,he]
 .refine Z ?_
  exact⟨by rw[fC fun j hj=>hb j U],hxx⟩
end
section
variable (G:Nat->AV)
theorem AKK (l:List Vr)(m:SM)(ds:List Ds)(s:SM)(hl:l.length<=1048576)(hd:ds.length<=1048576)(hw:∀d∈ds,d.ws.length<=1048576)(h:Hp):PCall (En G) 106 [.sl m 4 (l.map encV),.sl s 2 (ds.map IJ)] h (.n (MN l ds)):=by
 refine ACalls.pure0 rfl ?_;refine acT Tryz.func106 4 ?_;refine Z ?_;refine BB (fun n F H=>∃i,n+i=ds.length∧(∀(j:Nat),j<i->dsI l ds j=0)∧F 0=.sl m 4 (l.map encV)∧F 1=.sl s 2 (ds.map IJ)∧F 5=.n (i:Nat)∧ext h H) ds.length ⟨0,A8,fun j hj=>absurd hj U,AC,AC,AC,ext.rfl' h⟩ ?_;rintro n F H ⟨i,hi,hb,f0,f1,f5,hxx⟩;refine AQ f1 f5 ?_;refine DU ?_ ?_<;>intro hi'
 .have hwi:=hw _ (jH hi')
  have hbad:=lR hi' hb;have hat:=lQ (l:=l) hi';have d0:∀ {k:Nat} (hk:k<ds.length) (H:Hp),BO jA H 3 (.fptr 2 (ds.map IJ) k 0)=some (.n ds[k].var):=fun hk H=>by rw[BP ag3 hk]; rfl
  have d1:∀H:Hp,BO jA H 120 (.fptr 2 (ds.map IJ) i 1)=some (.sl ds[i].wm 4 (ds[i].ws.map IZ)):=fun H=>by rw[BP AHX hi']; rfl
  refine Y6 f0 f1 f5 hi' (d0 hi') ?_;refine P7 (fun F' H'=>F' 0=.sl m 4 (l.map encV)∧F' 1=.sl s 2 (ds.map IJ)∧F' 5=.n (i:Nat)∧F' 42=.bool (!O9 l ds[i].var)∧H'=H) ?_ ?_
  .cases b1:decide (ds[i].var<0)
   case true =>
    refine EO b1 f0 f1 f5 ?_;refine⟨trivial,trivial,trivial,?_,trivial⟩;have:O9 l ds[i].var=false:=by unfold O9; rw[decide_eq_false (by simp at b1; omega)]; rfl
    rw[this]; rfl
   have h0:0<=ds[i].var:=BL b1;obtain⟨k,hk⟩:=Int.eq_ofNat_of_zero_le h0
   rw[hk] at b1|-
   have d0':=d0 hi' H;rw[hk] at d0';cases b2:decide (((k:Nat):Int)≥((l.length:Nat):Int))
   case true =>
    refine NZ b1 b2 f0 f1 f5 hi' d0' ?_;refine⟨trivial,trivial,trivial,?_,trivial⟩;have:O9 l ((k:Nat):Int)=false:=by unfold O9; rw[decide_eq_false (p:=((k:Nat):Int)<(l.length:Int)) (by simp at b2; omega)]; simp
    rw[this]; rfl
   have hk':k<l.length:=by simp at b2; omega
   have l2:BO jA H 3 (.fptr 4 (l.map encV) k 2)=some (.n l[k].mode):=by rw[BP ag3 hk']; rfl
   refine VW b1 b2 f0 f1 f5 hi' d0' hk' l2 ?_;exact⟨trivial,trivial,trivial,by rw[XZ hk',Bool.not_not],trivial⟩
  clear f0 f1 f5;rintro F H0 ⟨f0,f1,f5,f42,rfl⟩;refine AO f42 ?_;cases b1:O9 l ds[i].var
  .have he:dsE l (ds.take i) ds[i]=1:=by unfold dsE; rw[b1]; rfl
   refine Z ?_;exact⟨by rw[hbad (by rw[he]; decide),he],hxx⟩
  refine Z ?_;refine D9 2 (fun F' H'=>F' 0=.sl m 4 (l.map encV)∧F' 1=.sl s 2 (ds.map IJ)∧F' 5=.n (i:Nat)∧H'=H0∧((ds.take i).any fun x=>x.var==ds[i].var)=false) (fun F' H'=>F' 4=.n (MN l ds)∧H'=H0) ?_ ?_ ?_
  .refine BB (fun n' F' H'=>∃k,n'+k=i∧(∀(j:Nat) (hj:j<k) (hl:j<ds.length),(ds[j].var==ds[i].var)=false)∧F' 0=.sl m 4 (l.map encV)∧F' 1=.sl s 2 (ds.map IJ)∧F' 5=.n (i:Nat)∧F' 6=.n (k:Nat)∧H'=H0) i ⟨0,A8,fun j hj=>absurd hj U,DW f0,DW f1,DW f5,AC,rfl⟩ ?_
   clear f0 f1 f5 f42;rintro n' F H ⟨k,hk,hbk,f0,f1,f5,f6,rfl⟩;refine AQ f5 f6 ?_;refine DU ?_ ?_<;>intro hk'
   .have hk2:k<ds.length:=U
    refine Z ?_;refine DJ AZ ?_;refine NZ f1 f5 f6 hk2 hi' (d0 hk2) (d0 hi') ?_;refine BG ?_ ?_<;>intro he
    .have hany:((ds.take i).any fun x=>x.var==ds[i].var)=true:=qK.2 ⟨ds[k],by
      have:(ds.take i)[k]'(by rw[jU]; omega)=ds[k]:=List.getElem_take
      rw[<-this]; exact jH _,he⟩
     have hz:dsE l (ds.take i) ds[i]=8:=by unfold dsE; rw[b1,hany]; rfl
     refine Z ?_;exact⟨by rw[hbad (by rw[hz]; decide),hz],trivial⟩
    .refine AQ f6 (CW k) ?_
     refine⟨n'-1,U,k+1,U,fun j hj hl=>?_,A7,A7,A7,rfl,trivial⟩;rcases jZ j k with h1|h1
     .exact hbk j h1 hl
     .obtain rfl:j=k:=U
      exact he
   .refine Z ?_
    refine⟨f0,f1,f5,trivial,?_⟩;rw[qM];intro x hx;obtain⟨j,hj,rfl⟩:=qR hx;rw[jU] at hj;rw[List.getElem_take,hbk j U U]; decide
  .rintro F' H' ⟨g0,g1,g5,rfl,b2⟩
   refine Y6 yV g1 g5 hi' d1 ?_;refine BG ?_ ?_<;>intro b3
   .have he:dsE l (ds.take i) ds[i]=2:=by unfold dsE; rw[b1,b2,if_pos rfl,if_neg DK,if_pos (by simp at b3; omega)]
    refine Z ?_;exact⟨by rw[hbad (by rw[he]; decide),he],hxx⟩
   refine Z ?_;refine D9 4 (fun F2 H2=>F2 0=.sl m 4 (l.map encV)∧F2 1=.sl s 2 (ds.map IJ)∧F2 5=.n (i:Nat)∧ext h H2∧ds[i].ws.any mH=false) (fun F2 H2=>F2 4=.n (MN l ds)∧ext h H2) ?_ ?_ ?_
   .refine BB (fun n' F2 H2=>∃k,n'+k=ds[i].ws.length∧(∀(j:Nat) (hj:j<k) (hl:j<ds[i].ws.length),mH ds[i].ws[j]=false)∧F2 0=.sl m 4 (l.map encV)∧F2 1=.sl s 2 (ds.map IJ)∧F2 5=.n (i:Nat)∧F2 7=.n (k:Nat)∧ext h H2) ds[i].ws.length ⟨0,A8,fun j hj=>absurd hj U,DW g0,DW g1,DW g5,AC,hxx⟩ ?_
    clear f0 f1 f5 f42 g0 g1 g5 hxx;rintro n' F H ⟨k,hk,hbk,f0,f1,f5,f7,hxx⟩;refine cK yV f1 f5 f7 hi' d1 ?_;refine DU ?_ ?_<;>intro hk'
    .have hx1:ext h (H++[qF 4 [IZ ds[i].ws[k]]]):=hxx.app _
     have gE:=AX H (qF 4 [IZ ds[i].ws[k]]);simp -implicitDefEqProofs only[vQ,CJ,↓reduceIte,jC,enP,AJW,ANV,tZ,bN,jQ,f1,f5,f7,CG hi',d1,CG hk',CY AVH AFT dR hk',A3R,A2O]
     generalize H++[qF 4 [IZ ds[i].ws[k]]]=H1 at hx1 gE|-
     generalize hx:ds[i].ws[k]=x at gE;have l0:BO jA H1 3 (.ptr H.length 0 0)=some (.n x.lo):=by rw[BH ag3 gE (row:=IZ x) rfl]; rfl
     have l1:BO jA H1 3 (.ptr H.length 0 1)=some (.n x.hi):=by rw[BH ag3 gE (row:=IZ x) rfl]; rfl
     have l2:BO jA H1 3 (.ptr H.length 0 2)=some (.n x.w):=by rw[BH ag3 gE (row:=IZ x) rfl]; rfl
     refine AO l0 ?_;refine P7 (fun F' H'=>F' 0=.sl m 4 (l.map encV)∧F' 1=.sl s 2 (ds.map IJ)∧F' 5=.n (i:Nat)∧F' 7=.n (k:Nat)∧F' 108=.bool (mH x)∧H'=H1) ?_ ?_
     .unfold mH
      cases b1:decide (x.lo<0)
      case true =>
       refine JL b1 f0 f1 f5 f7 ?_;exact⟨trivial,trivial,trivial,trivial,trivial,trivial⟩
      cases b2:decide (x.lo>x.hi)
      case true =>
       refine QZ l0 l1 b1 b2 f0 f1 f5 f7 ?_;exact⟨trivial,trivial,trivial,trivial,trivial,trivial⟩
      cases b3:decide (x.hi>65535)
      case true =>
       refine VW l0 l1 b1 b2 b3 f0 f1 f5 f7 ?_;exact⟨trivial,trivial,trivial,trivial,trivial,trivial⟩
      cases b4:decide (x.w<0)
      case true =>
       simp -implicitDefEqProofs only[vQ,zY,zQ,Bool.true_or,ED,cM,CJ,FM,↓reduceIte,jC,enP,bN,gY,bM,l0,l1,l2,b1,b2,b3,b4,f0,f1,f5,f7];exact⟨trivial,trivial,trivial,trivial,trivial,trivial⟩
      cases b5:decide (x.w>1000)
      all_goals
       simp -implicitDefEqProofs only[vQ,zY,zQ,ED,CJ,↓reduceIte,jC,enP,bN,gY,bM,l0,l1,l2,b1,b2,b3,b4,b5,f0,f1,f5,f7];exact⟨trivial,trivial,trivial,trivial,trivial,trivial⟩
     clear f0 f1 f5 f7;rintro F H2 ⟨f0,f1,f5,f7,f108,rfl⟩;refine AO f108 ?_;refine BG ?_ ?_<;>intro b4
     .have hany:ds[i].ws.any mH=true:=qK.2 ⟨x,by rw[<-hx]; exact jH _,b4⟩
      have he:dsE l (ds.take i) ds[i]=1:=by unfold dsE; rw[b1,b2,if_pos rfl,if_neg DK,if_neg (by simp at b3; omega),hany]; rfl
      refine Z ?_;exact⟨by rw[hbad (by rw[he]; decide),he],hx1⟩
     .refine AQ f7 (CW k) ?_
      refine⟨n'-1,U,k+1,U,fun j hj hl=>?_,A7,A7,A7,rfl,hx1⟩;rcases jZ j k with h1|h1
      .exact hbk j h1 hl
      .obtain rfl:j=k:=U
       rw[hx]; exact b4
    .refine Z ?_
     refine⟨f0,f1,f5,hxx,?_⟩;rw[qM];intro x hx;obtain⟨j,hj,rfl⟩:=qR hx;rw[hbk j U hj]; decide
   .rintro F2 H2 ⟨g0,g1,g5,hx2,b4⟩
    have he:dsE l (ds.take i) ds[i]=0:=by unfold dsE; rw[b1,b2,if_pos rfl,if_neg DK,if_neg (by simp at b3; omega),b4]; rfl
    refine AQ g5 (CW i) ?_;refine⟨n-1,U,i+1,U,fun j hj=>?_,A7,A7,rfl,hx2⟩;rcases jZ j i with h1|h1
    .exact hb j h1
    .obtain rfl:j=i:=U
     rw[hat,he]
   .rintro F2 H2 ⟨g4,hx2⟩
    refine AO g4 ?_;exact⟨trivial,hx2⟩
  .rintro F' H' ⟨g4,rfl⟩
   refine AO g4 ?_;exact⟨trivial,hxx⟩
 .refine Z ?_
  exact⟨by rw[fC fun j hj=>hb j U],hxx⟩
end
def flG (gs:List Gp):List Int:=gs.flatMap Gp.l
theorem AAT {gs:List Gp}(hi:i<gs.length):flG (gs.take (i+1))=flG (gs.take i)++gs[i].l:=by
 unfold flG; rw[jW hi,List.flatMap_append]; simp
theorem pQ {gs:List Gp}(hi:i<gs.length)(hj:j<gs[i].l.length):flG gs=(flG (gs.take i)++gs[i].l.take j)++gs[i].l[j]::(gs[i].l.drop (j+1)++flG (gs.drop (i+1))):=by
 have h1:gs=gs.take i++gs[i]::gs.drop (i+1):=by rw[<-zS hi,wC]
 have h2:flG gs=flG (gs.take i)++(gs[i].l++flG (gs.drop (i+1))):=by
  unfold flG
  conv=>lhs; rw[h1]
  rw[List.flatMap_append,List.flatMap_cons]
 have h3:gs[i].l=gs[i].l.take j++gs[i].l[j]::gs[i].l.drop (j+1):=by rw[<-zS hj,wC]
 have h4:gs[i].l++flG (gs.drop (i+1))=(gs[i].l.take j++gs[i].l[j]::gs[i].l.drop (j+1))++flG (gs.drop (i+1)):=by rw[<-h3]
 rw[h2,h4];simp only[zC,zF]
def gOK (l:List Vr)(gs:List Gp):Bool:=decide ((∀g∈gs,g.l≠[])∧(∀x∈flG gs,0<=x∧x<l.length)∧∀i:Fin l.length,(flG gs).count ((i.1:Nat):Int)=if l[i.1].mode=0 then 0 else 1)
theorem AGY {l:List Vr}{gs:List Gp}{g:Gp}(hg:g∈gs)(h:g.l=[]):gOK l gs=false:=decide_eq_false fun⟨h1,_⟩=>h1 g hg h
theorem tJ {l:List Vr}{gs:List Gp}(hx:x∈flG gs)(h:¬(0<=x∧x<l.length)):gOK l gs=false:=decide_eq_false fun⟨_,h1,_⟩=>h (h1 x hx)
theorem bG {l:List Vr}{gs:List Gp}(hi:i<l.length)(h:(flG gs).count ((i:Nat):Int)≠if l[i].mode=0 then 0 else 1):gOK l gs=false:=decide_eq_false fun⟨_,_,h1⟩=>h (h1 ⟨i,hi⟩)
theorem XY {l:List Vr}(h:O9 l x=true):∃k,∃hk:k<l.length,x=(k:Nat)∧¬l[k].mode=0:=by
 unfold O9 at h;simp only[jT,decide_eq_true_eq] at h;obtain⟨h0,h1,h2⟩:=h;have hk:x.toNat<l.length:=U;rw[jI hk] at h2;exact⟨x.toNat,hk,U,BL h2⟩
theorem ASN {l:List Vr}{gs:List Gp}(hx:x∈flG gs)(h:O9 l x=false):gOK l gs=false:=by
 by_cases hr:0<=x∧x<l.length
 .obtain⟨k,rfl⟩:=Int.eq_ofNat_of_zero_le hr.1
  have hk:k<l.length:=U;rw[XZ hk] at h;refine bG hk ?_;rw[if_pos (BL h)];have:=List.count_pos_iff.2 hx;omega
 .exact tJ hx hr
def bR (done:List Int)(n:Nat):List (List AV):=(zI n).map fun i=>[AV.bool (decide (((i:Nat):Int)∈done))]
def cR (done:List Int)(n:Nat):List (List AV):=(zI n).map fun i=>[AV.int .i64 ((done.count ((i:Nat):Int):Nat):Int)]
theorem eC (done:List Int)(n:Nat):(bR done n).length=n:=by simp [bR]
theorem Z5 (done:List Int)(n:Nat):(cR done n).length=n:=by simp [cR]
theorem Z8 (done:List Int)(hi:i<n):(bR done n)[i]?=some [AV.bool (decide (((i:Nat):Int)∈done))]:=by simp [bR,hi]
theorem XJ (done:List Int)(hi:i<n):(cR done n)[i]?=some [AV.int .i64 ((done.count ((i:Nat):Int):Nat):Int)]:=by simp [cR,hi]
theorem AXT (done:List Int)(hk:k<n):(bR done n).set k [.bool true]=bR (done++[(k:Int)]) n:=by
 apply List.ext_getElem?;intro i;rw[zG];by_cases hi:i<n
 .by_cases e:k=i
  .subst e
   rw[if_pos rfl,if_pos (by rw[eC]; exact hi),Z8 _ hi];simp
  .rw[if_neg e,Z8 _ hi,Z8 _ hi]
   congr 3;simp;rintro h; omega
 .rw[zW (by rw[eC]; omega)]
  split
  .rw[if_neg (by rw[eC]; omega),zW (by rw[eC]; omega)]
  .rw[zW (by rw[eC]; omega)]
theorem AXJ (done:List Int)(hk:k<n):(cR done n).set k [.n ((done.count ((k:Nat):Int)+1:Nat):Int)]=cR (done++[(k:Int)]) n:=by
 apply List.ext_getElem?;intro i;rw[zG];by_cases hi:i<n
 .by_cases e:k=i
  .subst e
   rw[if_pos rfl,if_pos (by rw[Z5]; exact hi),XJ _ hi,List.count_append];simp
  .rw[if_neg e,XJ _ hi,XJ _ hi,List.count_append]
   have:((k:Nat):Int)≠((i:Nat):Int):=U;simp [this]
 .rw[zW (by rw[Z5]; omega)]
  split
  .rw[if_neg (by rw[Z5]; omega),zW (by rw[Z5]; omega)]
  .rw[zW (by rw[Z5]; omega)]
theorem AZA (h:Hp)(n:Nat)(hn:n<=1048576):GL jA true h 221 (.n (n:Int)) (.n (n:Int))=some (.own h.length 0 n,h++[qF 1 (bR [] n)]):=by
 have hz:MB jA 4=some [.bool false]:=AZ;have hr:room n 1:=I5 U U;unfold GL;simp only[AYB,sz4,A0R,hz,qN];rw[if_pos ⟨U,Int.le_refl _,hr,rfl⟩]
 have:bR [] n=zD n [.bool false]:=by
  apply List.ext_getElem?;intro i;by_cases hi:i<n
  .rw[Z8 _ hi,List.getElem?_replicate,if_pos hi]; simp
  .rw[zW (by rw[eC]; omega),zW MS]
 rw[this];simp
theorem AY8 (h:Hp)(n:Nat)(hn:n<=1048576):GL jA true h 32 (.n (n:Int)) (.n (n:Int))=some (.own h.length 0 n,h++[qF 1 (cR [] n)]):=by
 have hz:MB jA 3=some [.n 0]:=AZ;have hr:room n 8:=I5 U U;unfold GL;simp only[fP,sz3,uN,hz,qN];rw[if_pos ⟨U,Int.le_refl _,hr,rfl⟩]
 have:cR [] n=zD n [.n 0]:=by
  apply List.ext_getElem?;intro i;by_cases hi:i<n
  .rw[XJ _ hi,List.getElem?_replicate,if_pos hi]; simp
  .rw[zW (by rw[Z5]; omega),zW MS]
 rw[this];simp
theorem A2M {o:Nat}{rows:List (List AV)}(ho:h[o]?=some (qF 1 rows))(hj:∃v,rows[j]?=some [v])(b:Bool):DX jA h 4 (.ptr o j 0) (.bool b)=some (h.set o (qF 1 (rows.set j [.bool b]))):=by
 obtain⟨v,hv⟩:=hj;rw[G9 (cs:=[.bool b]) rfl sz4 ho hv A8]; rfl
theorem A2L {o:Nat}{rows:List (List AV)}(ho:h[o]?=some (qF 1 rows))(hj:∃v,rows[j]?=some [v]):DX jA h 3 (.ptr o j 0) (.n x)=some (h.set o (qF 1 (rows.set j [.n x]))):=by
 obtain⟨v,hv⟩:=hj;rw[G9 (cs:=[.n x]) rfl sz3 ho hv A8]; rfl
section
variable (G:Nat->AV)
theorem AD1 (l:List Vr)(m:SM)(gs:List Gp)(s:SM)(hl:l.length<=1048576)(hg:gs.length<=1048576)(hw:(flG gs).length<=1048576)(h:Hp):PCall (En G) 107 [.sl m 4 (l.map encV),.sl s 1 (gs.map QR)] h (.bool (gOK l gs)):=by
 refine ACalls.pure0 rfl ?_;refine acT Tryz.func107 4 ?_;refine AO (AY8 h l.length hl) ?_;refine D9 0 (fun F H=>F 0=.sl m 4 (l.map encV)∧F 5=.own h.length 0 l.length∧H=h++[qF 1 (cR (flG gs) l.length)]∧(∀g∈gs,g.l≠[])∧∀x∈flG gs,0<=x∧x<l.length) (fun F H=>F 4=.bool (gOK l gs)∧ext h H) ?_ ?_ ?_
 .refine BB (fun n F H=>∃i,n+i=gs.length∧F 0=.sl m 4 (l.map encV)∧F 1=.sl s 1 (gs.map QR)∧F 5=.own h.length 0 l.length∧F 6=.n (i:Nat)∧H=h++[qF 1 (cR (flG (gs.take i)) l.length)]∧(∀g∈gs.take i,g.l≠[])∧∀x∈flG (gs.take i),0<=x∧x<l.length) gs.length ⟨0,A8,AC,AC,AC,AC,rfl,A8,by simp [flG]⟩ ?_
  rintro n F H ⟨i,hi,f0,f1,f5,f6,rfl,hne,hin⟩;refine AQ f1 f6 ?_;refine DU ?_ ?_<;>intro hi'
  .have lg:∀H:Hp,BO jA H 32 (.fptr 1 (gs.map QR) i 0)=some (.sl gs[i].m 1 (gs[i].l.map qencI)):=fun H=>by rw[BP MO hi']; rfl
   refine OQ f1 f6 hi' lg ?_;refine BG ?_ ?_<;>intro hz
   .refine Z ?_
    exact⟨by rw[AGY (jH hi') (qU (BL hz))],_,rfl⟩
   have hnz:gs[i].l≠[]:=by
    intro e; rw[e] at hz; simp at hz
   refine Z ?_;refine D9 2 (fun F' H'=>F' 0=.sl m 4 (l.map encV)∧F' 1=.sl s 1 (gs.map QR)∧F' 5=.own h.length 0 l.length∧F' 6=.n (i:Nat)∧H'=h++[qF 1 (cR (flG (gs.take i)++gs[i].l) l.length)]∧∀x∈flG (gs.take i)++gs[i].l,0<=x∧x<l.length) (fun F' H'=>F' 4=.bool (gOK l gs)∧ext h H') ?_ ?_ ?_
   .refine BB (fun n' F' H'=>∃j,n'+j=gs[i].l.length∧F' 0=.sl m 4 (l.map encV)∧F' 1=.sl s 1 (gs.map QR)∧F' 5=.own h.length 0 l.length∧F' 6=.n (i:Nat)∧F' 7=.n (j:Nat)∧H'=h++[qF 1 (cR (flG (gs.take i)++gs[i].l.take j) l.length)]∧∀x∈flG (gs.take i)++gs[i].l.take j,0<=x∧x<l.length) gs[i].l.length ⟨0,A8,DW f0,DW f1,DW f5,DW f6,AC,by rw[qB,jO],by rw[qB,jO]; exact hin⟩ ?_
    clear f0 f1 f5 f6;rintro n' F H ⟨j,hj,f0,f1,f5,f6,f7,rfl,hin2⟩;refine Y6 f1 f6 f7 hi' lg ?_;refine DU ?_ ?_<;>intro hj'
    .have hsp:=pQ hi' hj'
     have hmem:gs[i].l[j]∈flG gs:=by rw[hsp]; simp
     have l3:∀H:Hp,BO jA H 3 (.fptr 1 (gs[i].l.map qencI) j 0)=some (.n gs[i].l[j]):=fun H=>by rw[BP ag3 hj']; rfl
     refine NZ f1 f6 f7 hi' lg hj' l3 ?_;cases b1:decide (gs[i].l[j]<0)
     case true =>
      refine AO b1 ?_;exact⟨by rw[tJ hmem (by simp at b1; omega)],_,rfl⟩
     refine AQ b1 f0 ?_;refine BG ?_ ?_<;>intro b2
     .refine Z ?_
      exact⟨by rw[tJ hmem (by simp at b2; omega)],_,rfl⟩
     have h0:0<=gs[i].l[j]:=BL b1;obtain⟨k,hk⟩:=Int.eq_ofNat_of_zero_le h0;have hkl:k<l.length:=by rw[hk] at b2; simp at b2; omega
     have hb0:=AX h (qF 1 (cR (flG (gs.take i)++gs[i].l.take j) l.length))
     have hcnt:(flG (gs.take i)++gs[i].l.take j).count ((k:Nat):Int)<=1048576:=by
      have h1:=List.count_le_length (a:=((k:Nat):Int)) (l:=flG (gs.take i)++gs[i].l.take j)
      have h2:(flG (gs.take i)++gs[i].l.take j).length<=(flG gs).length:=by
       rw[hsp]; simp only[jS]; omega
      omega
     have hjb:j<=1048576:=by
      have h2:gs[i].l.length<=(flG gs).length:=by
       rw[hsp]; simp only[jS,zH,jU,List.length_drop]; omega
      omega
     have lc:BO jA (h++[qF 1 (cR (flG (gs.take i)++gs[i].l.take j) l.length)]) 3 (.ptr h.length k 0)=some (.n (((flG (gs.take i)++gs[i].l.take j).count ((k:Nat):Int):Nat):Int)):=by
      rw[BH ag3 hb0 (XJ _ hkl)]; rfl
     have hst:=A2L (x:=(((flG (gs.take i)++gs[i].l.take j).count ((k:Nat):Int)+1:Nat):Int)) hb0 (j:=k) ⟨_,XJ _ hkl⟩;rw[AXJ _ hkl,KH] at hst
     have hap:(flG (gs.take i)++gs[i].l.take j)++[((k:Nat):Int)]=flG (gs.take i)++gs[i].l.take (j+1):=by
      rw[jW hj',hk,zC]
     simp -implicitDefEqProofs only[vQ,CJ,↓reduceIte,jC,enP,KJ,jQ,f5,hk,IG hb0 hkl,lc,wrap_succ (U:(flG (gs.take i)++gs[i].l.take j).count ((k:Nat):Int)<9223372036854775807),hst,f7,CW j];refine⟨n'-1,U,j+1,U,A7,A7,A7,A7,rfl,by rw[<-hap],fun x hx=>?_⟩;rw[<-hap] at hx;rcases zX.1 hx with hx|hx
     .exact hin2 x hx
     .rw[qP] at hx
      rw[hx]; omega
    .have e:gs[i].l.take j=gs[i].l:=jJ U
     rw[e] at hin2;refine Z ?_;exact⟨f0,f1,f5,f6,by rw[e],hin2⟩
   .rintro F' H' ⟨g0,g1,g5,g6,rfl,hin2⟩
    refine AQ g6 (CW i) ?_;have hft:=AAT hi';refine⟨n-1,U,i+1,U,A7,A7,A7,rfl,by rw[hft],fun g hg=>?_,by rw[hft]; exact hin2⟩;rw[jW hi'] at hg;rcases zX.1 hg with hg|hg
    .exact hne g hg
    .rw[qP] at hg; rw[hg]; exact hnz
   .rintro F' H' ⟨g4,hx⟩
    refine AO g4 ?_;exact⟨trivial,hx⟩
  .rw[jJ U] at hne hin
   refine Z ?_;exact⟨f0,f5,by rw[jJ U],hne,hin⟩
 .rintro F H ⟨f0,f5,rfl,hne,hin⟩
  have hb0:=AX h (qF 1 (cR (flG gs) l.length));have hx0:ext h (h++[qF 1 (cR (flG gs) l.length)]):=⟨_,rfl⟩
  generalize h++[qF 1 (cR (flG gs) l.length)]=H0 at hb0 hx0|-
  refine Z ?_;refine BB (fun n F H=>∃i,n+i=l.length∧(∀(j:Nat),j<i->∀hj:j<l.length,(flG gs).count ((j:Nat):Int)=if l[j].mode=0 then 0 else 1)∧F 0=.sl m 4 (l.map encV)∧F 5=.own h.length 0 l.length∧F 9=.n (i:Nat)∧H=H0) l.length ⟨0,A8,fun j hj=>absurd hj U,DW f0,DW f5,AC,rfl⟩ ?_;clear f0 f5;rintro n F H ⟨i,hi,hb,f0,f5,f9,rfl⟩;refine AQ f0 f9 ?_;refine DU ?_ ?_<;>intro hi'
  .have l2:BO jA H 3 (.fptr 4 (l.map encV) i 2)=some (.n l[i].mode):=by rw[BP ag3 hi']; rfl
   have lc:BO jA H 3 (.ptr h.length i 0)=some (.n (((flG gs).count ((i:Nat):Int):Nat):Int)):=by
    rw[BH ag3 hb0 (XJ _ hi')]; rfl
   have nxt:(flG gs).count ((i:Nat):Int)=(if l[i].mode=0 then 0 else 1)->∀(j:Nat),j<i+1->∀hj:j<l.length,(flG gs).count ((j:Nat):Int)=if l[j].mode=0 then 0 else 1:=fun he j hj hl=>by
    rcases jZ j i with h1|h1
    .exact hb j h1 hl
    .obtain rfl:j=i:=U
     exact he
   refine OQ f0 f9 hi' l2 ?_;refine BG ?_ ?_<;>intro b1
   .have hm:l[i].mode=0:=BL b1
    simp -implicitDefEqProofs only[vQ,CJ,↓reduceIte,jC,enP,KJ,f5,f9,IG hb0 hi',lc];refine BG ?_ ?_<;>intro b2
    .refine Z ?_
     refine⟨?_,hx0⟩;rw[bG hi' (by rw[if_pos hm]; simp [bne] at b2; exact fun e=>b2 e)]
    .have he:=nxt (by rw[if_pos hm]; simp [bne] at b2; exact b2)
     refine AQ f9 (CW i) ?_;exact⟨n-1,U,i+1,U,he,A7,A7,rfl,trivial⟩
   .have hm:¬l[i].mode=0:=BL b1
    simp -implicitDefEqProofs only[vQ,CJ,↓reduceIte,jC,enP,KJ,f5,f9,IG hb0 hi',lc];refine BG ?_ ?_<;>intro b2
    .refine Z ?_
     refine⟨?_,hx0⟩;rw[bG hi' (by rw[if_neg hm]; intro e; rw[e] at b2; exact absurd b2 DK)]
    .have he:=nxt (by rw[if_neg hm]; simp [bne] at b2; omega)
     refine AQ f9 (CW i) ?_;exact⟨n-1,U,i+1,U,he,A7,A7,rfl,trivial⟩
  .refine Z ?_
   refine⟨?_,hx0⟩;rw[show gOK l gs=true from decide_eq_true ⟨hne,hin,fun i=>hb i.1 U i.2⟩]
 .rintro F H ⟨f4,hx⟩
  refine AO f4 ?_;exact⟨trivial,hx⟩
end
section
variable (G:Nat->AV)
theorem AAH (p:Pr)(hl:p.vars.length<=1048576)(hg:p.groups.length<=1048576)(hw:(flG p.groups).length<=1048576)(h:Hp):PCall (En G) 84 [.agg (CX p)] h (.n (if gOK p.vars p.groups=true then 0 else 1)):=by
 refine ACalls.pure0 rfl ?_;refine acT Tryz.func84 2 ?_;have ge:=AX h (qF 5 [CX p]);have hxx:ext h (h++[qF 5 [CX p]]):=(ext.rfl' h).app _;refine AO @SS ?_
 generalize h++[qF 5 [CX p]]=hb at ge hxx|-
 generalize h.length=eb at ge|-
 have nb:gOK p.vars p.groups=false->(AV.int .i64 1=AV.int .i64 (if gOK p.vars p.groups=true then 0 else 1)):=fun hh=>by rw[hh]; rfl
 have l0:BO jA hb 22 (.ptr eb 0 0)=some (.sl p.vm 4 (p.vars.map encV)):=by rw[BH YQ ge (row:=CX p) rfl]; rfl
 refine DI @lC l0 (AZA hb p.vars.length hl) ?_;have geA:∀x:ABlk,(hb++[x])[eb]?=some (qF 5 [CX p]):=fun x=>AL ge
 have l4:∀x:ABlk,BO jA (hb++[x]) 25 (.ptr eb 0 4)=some (.sl p.gm 1 (p.groups.map QR)):=fun x=>by rw[BH XN (geA x) (row:=CX p) rfl]; rfl
 have lp:∀x:ABlk,BO jA (hb++[x]) 27 (.ptr eb 0 0)=some (.agg (CX p)):=fun x=>by rw[EH mP fR (geA x) (row:=CX p) rfl (by rw[NV]; exact jF 5)]; rfl
 have l0A:∀x:ABlk,BO jA (hb++[x]) 22 (.ptr eb 0 0)=some (.sl p.vm 4 (p.vars.map encV)):=fun x=>by rw[BH YQ (geA x) (row:=CX p) rfl]; rfl
 have hxA:∀x:ABlk,ext h (hb++[x]):=fun x=>hxx.app _
 refine AO l4 ?_;refine D9 0 (fun F H=>F 1=.ptr eb 0 0∧F 3=.own hb.length 0 p.vars.length∧H=hb++[qF 1 (bR (flG p.groups) p.vars.length)]∧(∀g∈p.groups,g.l≠[])∧(∀x∈flG p.groups,O9 p.vars x=true)∧∀x:Int,(flG p.groups).count x<=1) (fun F H=>F 2=.n (if gOK p.vars p.groups=true then 0 else 1)∧ext h H) ?_ ?_ ?_
 .refine BB (fun n F H=>∃i,n+i=p.groups.length∧F 1=.ptr eb 0 0∧F 3=.own hb.length 0 p.vars.length∧F 14=.sl p.gm 1 (p.groups.map QR)∧F 15=.n (p.groups.length:Nat)∧F 16=.n (i:Nat)∧H=hb++[qF 1 (bR (flG (p.groups.take i)) p.vars.length)]∧(∀g∈p.groups.take i,g.l≠[])∧(∀x∈flG (p.groups.take i),O9 p.vars x=true)∧∀x:Int,(flG (p.groups.take i)).count x<=1) p.groups.length ⟨0,A8,AC,AC,AC,AC,AC,rfl,A8,by simp [flG],by simp [flG]⟩ ?_
  rintro n F H ⟨i,hi,f1,f3,f14,f15,f16,rfl,hne,hin,hct⟩;refine AQ f15 f16 ?_;refine DU ?_ ?_<;>intro hi'
  .have lg:∀H:Hp,BO jA H 32 (.fptr 1 (p.groups.map QR) i 0)=some (.sl p.groups[i].m 1 (p.groups[i].l.map qencI)):=fun H=>by rw[BP MO hi']; rfl
   refine OQ f14 f16 hi' lg ?_;refine BG ?_ ?_<;>intro hz
   .refine Z ?_
    exact⟨nb (AGY (jH hi') (qU (BL hz))),hxA _⟩
   have hnz:p.groups[i].l≠[]:=by
    intro e; rw[e] at hz; simp at hz
   refine Z ?_;refine D9 2 (fun F' H'=>F' 1=.ptr eb 0 0∧F' 3=.own hb.length 0 p.vars.length∧F' 14=.sl p.gm 1 (p.groups.map QR)∧F' 15=.n (p.groups.length:Nat)∧F' 16=.n (i:Nat)∧H'=hb++[qF 1 (bR (flG (p.groups.take i)++p.groups[i].l) p.vars.length)]∧(∀x∈flG (p.groups.take i)++p.groups[i].l,O9 p.vars x=true)∧∀x:Int,(flG (p.groups.take i)++p.groups[i].l).count x<=1) (fun F' H'=>F' 2=.n (if gOK p.vars p.groups=true then 0 else 1)∧ext h H') ?_ ?_ ?_
   .refine BB (fun n' F' H'=>∃j,n'+j=p.groups[i].l.length∧F' 1=.ptr eb 0 0∧F' 3=.own hb.length 0 p.vars.length∧F' 14=.sl p.gm 1 (p.groups.map QR)∧F' 15=.n (p.groups.length:Nat)∧F' 16=.n (i:Nat)∧F' 23=.sl p.groups[i].m 1 (p.groups[i].l.map qencI)∧F' 24=.n (p.groups[i].l.length:Nat)∧F' 25=.n (j:Nat)∧H'=hb++[qF 1 (bR (flG (p.groups.take i)++p.groups[i].l.take j) p.vars.length)]∧(∀x∈flG (p.groups.take i)++p.groups[i].l.take j,O9 p.vars x=true)∧∀x:Int,(flG (p.groups.take i)++p.groups[i].l.take j).count x<=1) p.groups[i].l.length
     ⟨0,A8,DW f1,DW f3,DW f14,DW f15,DW f16,AC,AC,AC,by rw[qB,jO],by rw[qB,jO]; exact hin,by rw[qB,jO]; exact hct⟩ ?_
    clear f1 f3 f14 f15 f16;rintro n' F H ⟨j,hj,f1,f3,f14,f15,f16,f23,f24,f25,rfl,hin2,hct2⟩;refine AQ f24 f25 ?_;refine DU ?_ ?_<;>intro hj'
    .have hsp:=pQ hi' hj'
     have hmem:p.groups[i].l[j]∈flG p.groups:=by rw[hsp]; simp
     have l3:∀H:Hp,BO jA H 3 (.fptr 1 (p.groups[i].l.map qencI) j 0)=some (.n p.groups[i].l[j]):=fun H=>by rw[BP ag3 hj']; rfl
     refine cK f23 f25 hj' l3 f1 lp ?_;refine(WG G p _ hl _).use ?_;cases b1:O9 p.vars p.groups[i].l[j]
     .refine Z ?_
      exact⟨nb (ASN hmem b1),hxA _⟩
     obtain⟨k,hkl,hk,hm⟩:=XY b1;have hb0:=AX hb (qF 1 (bR (flG (p.groups.take i)++p.groups[i].l.take j) p.vars.length))
     have lc:BO jA (hb++[qF 1 (bR (flG (p.groups.take i)++p.groups[i].l.take j) p.vars.length)]) 4 (.ptr hb.length k 0)=some (.bool (decide (((k:Nat):Int)∈flG (p.groups.take i)++p.groups[i].l.take j))):=by
      rw[BH ag4 hb0 (Z8 _ hkl)]; rfl
     have hst:=A2M hb0 (j:=k) ⟨_,Z8 _ hkl⟩ true;rw[AXT _ hkl,KH] at hst
     have hap:(flG (p.groups.take i)++p.groups[i].l.take j)++[((k:Nat):Int)]=flG (p.groups.take i)++p.groups[i].l.take (j+1):=by
      rw[jW hj',hk,zC]
     have hjb:j<=1048576:=by
      have h2:p.groups[i].l.length<=(flG p.groups).length:=by
       rw[hsp]; simp only[jS,zH,jU,List.length_drop]; omega
      omega
     simp -implicitDefEqProofs only[vQ,ED,CJ,rU,cQ,↓reduceIte,jC,qV,enP,ANU,f3,hk,IG hb0 hkl,lc];refine BG ?_ ?_<;>intro b2
     .refine Z ?_
      refine⟨nb (bG hkl ?_),hxA _⟩;have h1:0<(flG (p.groups.take i)++p.groups[i].l.take j).count ((k:Nat):Int):=List.count_pos_iff.2 (BL b2);rw[if_neg hm,hsp,List.count_append,hk,List.count_cons_self]; omega
     .have hnin:¬((k:Nat):Int)∈flG (p.groups.take i)++p.groups[i].l.take j:=BL b2
      simp -implicitDefEqProofs only[vQ,CJ,↓reduceIte,jC,enP,ANU,jQ,f3,IG hb0 hkl,hst,f25,CW j];refine⟨n'-1,U,j+1,U,A7,A7,A7,A7,A7,A7,A7,rfl,by rw[<-hap],fun x hx=>?_,fun x=>?_⟩
      .rw[<-hap] at hx
       rcases zX.1 hx with hx|hx
       .exact hin2 x hx
       .rw[qP] at hx
        rw[hx,<-hk]; exact b1
      .rw[<-hap,List.count_append]
       have h1:=hct2 x;by_cases hxk:((k:Nat):Int)=x
       .subst hxk
        rw[List.count_eq_zero.2 hnin]; simp
       .rw[List.count_append] at h1
        simp [hxk]; exact h1
    .have e:p.groups[i].l.take j=p.groups[i].l:=jJ U
     rw[e] at hin2 hct2;refine Z ?_;exact⟨f1,f3,f14,f15,f16,by rw[e],hin2,hct2⟩
   .rintro F' H' ⟨g1,g3,g14,g15,g16,rfl,hin2,hct2⟩
    refine AQ g16 (CW i) ?_;have hft:=AAT hi';refine⟨n-1,U,i+1,U,A7,A7,A7,A7,rfl,by rw[hft],fun g hg=>?_,by rw[hft]; exact hin2,by rw[hft]; exact hct2⟩;rw[jW hi'] at hg;rcases zX.1 hg with hg|hg
    .exact hne g hg
    .rw[qP] at hg; rw[hg]; exact hnz
   .rintro F' H' ⟨g2,hx⟩
    refine AO g2 ?_;exact⟨trivial,hx⟩
  .rw[jJ U] at hne hin hct
   refine Z ?_;exact⟨f1,f3,by rw[jJ U],hne,hin,hct⟩
 .rintro F H ⟨f1,f3,rfl,hne,hin,hct⟩
  have hb0:=AX hb (qF 1 (bR (flG p.groups) p.vars.length));have l0':=l0A (qF 1 (bR (flG p.groups) p.vars.length));have lp':=lp (qF 1 (bR (flG p.groups) p.vars.length));have hx0:=hxA (qF 1 (bR (flG p.groups) p.vars.length))
  generalize hb++[qF 1 (bR (flG p.groups) p.vars.length)]=H0 at hb0 hx0 l0' lp'|-
  refine AQ f1 l0' ?_;refine BB (fun n F H=>∃i,n+i=p.vars.length∧(∀(j:Nat),j<i->j<p.vars.length->O9 p.vars (j:Nat)=true->((j:Nat):Int)∈flG p.groups)∧F 1=.ptr eb 0 0∧F 3=.own hb.length 0 p.vars.length∧F 46=.n (p.vars.length:Nat)∧F 47=.n (i:Nat)∧H=H0) p.vars.length ⟨0,A8,fun j hj=>absurd hj U,DW f1,DW f3,AC,AC,rfl⟩ ?_;clear f1 f3;rintro n F H ⟨i,hi,hbb,f1,f3,f46,f47,rfl⟩;refine AQ f46 f47 ?_;refine DU ?_ ?_<;>intro hi'
  .have lc:BO jA H 4 (.ptr hb.length i 0)=some (.bool (decide (((i:Nat):Int)∈flG p.groups))):=by
    rw[BH ag4 hb0 (Z8 _ hi')]; rfl
   refine DI f1 f47 lp' ?_;refine(WG G p _ hl _).use ?_
   have nxt:(O9 p.vars (i:Nat)=true->((i:Nat):Int)∈flG p.groups)->∀(j:Nat),j<i+1->j<p.vars.length->O9 p.vars (j:Nat)=true->((j:Nat):Int)∈flG p.groups:=fun he j hj hl hr=>by
    rcases jZ j i with h1|h1
    .exact hbb j h1 hl hr
    .obtain rfl:j=i:=U
     exact he hr
   cases b1:O9 p.vars ((i:Nat):Int)
   .have he:=nxt (fun q=>by rw[b1] at q; cases q)
    refine AQ f47 (CW i) ?_;exact⟨n-1,U,i+1,U,he,A7,A7,A7,rfl,trivial⟩
   simp -implicitDefEqProofs only[vQ,ED,RD,CJ,rU,cQ,↓reduceIte,jC,enP,ANU,f3,f47,IG hb0 hi',lc];refine BG ?_ ?_<;>intro b2
   .refine Z ?_
    refine⟨nb (bG hi' ?_),hx0⟩;have h1:¬((i:Nat):Int)∈flG p.groups:=BL b2;have h2:¬p.vars[i].mode=0:=by rw[XZ hi'] at b1; simpa using b1
    rw[if_neg h2,List.count_eq_zero.2 h1]; decide
   .have he:=nxt (fun _=>BL b2)
    refine AQ f47 (CW i) ?_;exact⟨n-1,U,i+1,U,he,A7,A7,A7,rfl,trivial⟩
  .refine Z ?_
   refine⟨?_,hx0⟩
   have:gOK p.vars p.groups=true:=decide_eq_true ⟨hne,fun x hx=>by
    obtain⟨k,hk,rfl,_⟩:=XY (hin x hx);omega,fun j=>by
    by_cases hr:O9 p.vars ((j.1:Nat):Int)=true
    .have h1:=List.count_pos_iff.2 (hbb j.1 U j.2 hr)
     have h2:=hct ((j.1:Nat):Int);rw[XZ j.2] at hr;rw[if_neg (BL hr)]; omega
    .have h1:¬((j.1:Nat):Int)∈flG p.groups:=fun hm=>hr (hin _ hm)
     rw[XZ j.2] at hr;rw[if_pos (BL hr)]
     exact List.count_eq_zero.2 h1⟩
   rw[this]; rfl
 .rintro F H ⟨f2,hx⟩
  refine AO f2 ?_;exact⟨trivial,hx⟩
end
structure PrS (p:Pr):Prop where
 vars:p.vars.length<=1048576
 names:∀v∈p.vars,v.name.size<=1048576
 exprs:p.hard.length+p.soft.length<=1048576
 wts:∀e∈p.hard++p.soft,wt e<=1048576
 dists:p.dists.length<=1048576
 ws:∀d∈p.dists,d.ws.length<=1048576
 groups:p.groups.length<=1048576
 members:(flG p.groups).length<=1048576
def JY (p:Pr):Int:=if LD p.vars≠0 then LD p.vars else if JW p.vars (p.hard++p.soft)≠0 then JW p.vars (p.hard++p.soft) else if MN p.vars p.dists≠0 then MN p.vars p.dists else if gOK p.vars p.groups=true then 0 else 1
section
variable (G:Nat->AV)
theorem ABO (fs:List (FuncId×List AV×Int))(b:Nat)(hn:fs.length<=1048576)(h:Hp)(hb:h[b]?=some (qF 1 (fs.map fun x=>[.fn (.func x.1) [] x.2.1])))(hf:∀x∈fs,PCall (En G) x.1 ([]++x.2.1) h (.n x.2.2)):PCall (En G) 76 [.own b 0 fs.length] h (.n (fstE (fun x=>x.2.2) fs)):=by
 refine ACalls.pure0 rfl ?_;refine acT Tryz.func76 2 ?_;refine AO AZF ?_;refine D9 0 (fun F H=>H=h∧∀x∈fs,x.2.2=0) (fun F H=>F 2=.n (fstE (fun x=>x.2.2) fs)∧ext h H) ?_ ?_ ?_
 .refine BB (fun n F H=>∃i,n+i=fs.length∧F 6=.own b 0 fs.length∧F 7=.n (fs.length:Nat)∧F 8=.n (i:Nat)∧H=h∧∀(j:Nat) (hj:j<i) (hl:j<fs.length),fs[j].2.2=0) fs.length ⟨0,A8,AC,AC,AC,rfl,by intro j hj; omega⟩ ?_
  rintro n F H ⟨i,hi,f6,f7,f8,rfl,hz⟩;refine AQ f7 f8 ?_;refine DU ?_ ?_<;>intro hi'
  .have lf:BO jA H 150 (.ptr b i 0)=some (.fn (.func fs[i].1) [] fs[i].2.1):=by
    rw[BH (row:=[.fn (.func fs[i].1) [] fs[i].2.1]) A1W hb (by rw[List.getElem?_map,jI hi']; rfl)]; rfl
   simp -implicitDefEqProofs only[vQ,CJ,qA,↓reduceIte,jC,enP,AZP,f6,f8,IG hb hi',lf];refine(hf _ (jH hi')).uu ?_;refine BG ?_ ?_<;>intro hz'
   .refine Z ?_
    exact⟨by rw[SE (fun x:FuncId×List AV×Int=>x.2.2) fs i hi' (fun j hj=>hz j hj U) (by simpa using hz')],ext.rfl' _⟩
   .refine AQ f8 (CW i) ?_
    refine⟨n-1,U,i+1,U,A7,A7,rfl,trivial,fun j hj hl=>?_⟩;rcases jZ j i with h1|h1
    .exact hz j h1 hl
    .obtain rfl:j=i:=U
     simpa using hz'
  .refine Z ?_
   refine⟨trivial,fun x hx=>?_⟩;obtain⟨j,hj,rfl⟩:=qR hx;exact hz j U hj
 .rintro F H ⟨rfl,hz⟩
  refine Z ?_;exact⟨by rw[PW _ fs fun j hj=>hz _ (jH hj)],ext.rfl' _⟩
 .rintro F H ⟨f2,hx⟩
  refine AO f2 ?_;exact⟨trivial,hx⟩
theorem ATJ (hG:GOk G)(p:Pr)(hs:PrS p)(b:Nat)(h:Hp)(hb:h[b]?=some (qF 5 [CX p])):PCall (En G) 77 ([]++[.ptr b 0 0]) h (.n (LD p.vars)):=by
 refine acT Tryz.func77 1 ?_;have l0:BO jA h 22 (.ptr b 0 0)=some (.sl p.vm 4 (p.vars.map encV)):=by rw[BH YQ hb (row:=CX p) rfl]; rfl
 refine AO l0 ?_;refine(AIC G hG p.vars p.vm h hs.vars hs.names).uu ?_;exact G8
theorem ATI (hG:GOk G)(p:Pr)(hs:PrS p)(b:Nat)(h:Hp)(hb:h[b]?=some (qF 5 [CX p])):PCall (En G) 79 ([]++[.ptr b 0 0]) h (.n (JW p.vars (p.hard++p.soft))):=by
 refine acT Tryz.func79 1 ?_;have lp:BO jA h 27 (.ptr b 0 0)=some (.agg (CX p)):=by rw[EH mP fR hb (row:=CX p) rfl (by rw[NV]; exact jF 5)]; rfl
 refine AO lp ?_;refine(AD7 G hG p hs.vars hs.exprs hs.wts h).uu ?_;exact G8
theorem ATH (p:Pr)(hs:PrS p)(b:Nat)(h:Hp)(hb:h[b]?=some (qF 5 [CX p])):PCall (En G) 81 ([]++[.ptr b 0 0]) h (.n (MN p.vars p.dists)):=by
 refine acT Tryz.func81 1 ?_;have lp:BO jA h 27 (.ptr b 0 0)=some (.agg (CX p)):=by rw[EH mP fR hb (row:=CX p) rfl (by rw[NV]; exact jF 5)]; rfl
 refine AO lp ?_;refine(AEC G p hs.vars hs.dists hs.ws h).uu ?_;exact G8
theorem ATG (p:Pr)(hs:PrS p)(b:Nat)(h:Hp)(hb:h[b]?=some (qF 5 [CX p])):PCall (En G) 83 ([]++[.ptr b 0 0]) h (.n (if gOK p.vars p.groups=true then 0 else 1)):=by
 refine acT Tryz.func83 1 ?_;have lp:BO jA h 27 (.ptr b 0 0)=some (.agg (CX p)):=by rw[EH mP fR hb (row:=CX p) rfl (by rw[NV]; exact jF 5)]; rfl
 refine AO lp ?_;refine(AAH G p hs.vars hs.groups hs.members h).uu ?_;exact G8
theorem A03 (h:Hp)(a b c d:Fn)(k l m n:List AV):C9 jA true h 212 4 [(0,.fn a [] k),(1,.fn b [] l),(2,.fn c [] m),(3,.fn d [] n)]=some (.own h.length 0 4,h++[qF 1 [[.fn a [] k],[.fn b [] l],[.fn c [] m],[.fn d [] n]]]):=AZ
theorem valid_prog (hG:GOk G)(p:Pr)(hs:PrS p)(h:Hp):PCall (En G) 40 [.agg (CX p)] h (.n (JY p)):=by
 refine ACalls.pure0 rfl ?_;refine J7 (H:=hint [7] []) (enM G) Tryz.func40 rfl (by kernel_rfl) (by kernel_rfl) (jB (by kernel_rfl)) ?_;show awp _ _ _ _ _ (NU _ [.tmp 2] _);have ge:=AX h (qF 5 [CX p]);have hxx:ext h (h++[qF 5 [CX p]]):=(ext.rfl' h).app _;refine AQ @SS A03 ?_
 generalize h++[qF 5 [CX p]]=hb at ge hxx|-
 generalize h.length=eb at ge|-
 have hx2:=hxx.app [qF 1 [[AV.fn (.func 77) [] [.ptr eb 0 0]],[.fn (.func 79) [] [.ptr eb 0 0]],[.fn (.func 81) [] [.ptr eb 0 0]],[.fn (.func 83) [] [.ptr eb 0 0]]]];have ge2:=AL (x:=qF 1 [[AV.fn (.func 77) [] [.ptr eb 0 0]],[.fn (.func 79) [] [.ptr eb 0 0]],[.fn (.func 81) [] [.ptr eb 0 0]],[.fn (.func 83) [] [.ptr eb 0 0]]]) ge;refine(ABO G [(77,[.ptr eb 0 0],LD p.vars),(79,[.ptr eb 0 0],JW p.vars (p.hard++p.soft)),(81,[.ptr eb 0 0],MN p.vars p.dists),(83,[.ptr eb 0 0],if gOK p.vars p.groups=true then 0 else 1)] hb.length A8 _ (AX _ _) ?_).use ?_
 .intro x hx
  simp only[zK,List.not_mem_nil,or_false] at hx;rcases hx with rfl|rfl|rfl|rfl
  .exact ATJ G hG p hs eb _ ge2
  .exact ATI G hG p hs eb _ ge2
  .exact ATH G p hs eb _ ge2
  .exact ATG G p hs eb _ ge2
 .refine Z ?_
  refine⟨?_,hx2⟩;simp only[fstE,JY];by_cases h1:LD p.vars≠0
  .rw[if_pos h1,if_pos h1]
  rw[if_neg h1,if_neg h1];by_cases h2:JW p.vars (p.hard++p.soft)≠0
  .rw[if_pos h2,if_pos h2]
  rw[if_neg h2,if_neg h2];by_cases h3:MN p.vars p.dists≠0
  .rw[if_pos h3,if_pos h3]
  rw[if_neg h3,if_neg h3];cases gOK p.vars p.groups<;>rfl
theorem valid_ref (p:Pr)(hs:PrS p)(h:Hp):PCall (En G) 48 [.agg (CX p)] h (.n (JY p)):=by
 refine ACalls.pure0 rfl ?_;refine acT Tryz.func48 2 ?_;have ge:=AX h (qF 5 [CX p]);have hxx:ext h (h++[qF 5 [CX p]]):=(ext.rfl' h).app _;refine AO @SS ?_
 generalize h++[qF 5 [CX p]]=hb at ge hxx|-
 generalize h.length=eb at ge|-
 have l0:BO jA hb 22 (.ptr eb 0 0)=some (.sl p.vm 4 (p.vars.map encV)):=by rw[BH YQ ge (row:=CX p) rfl]; rfl
 have l1:BO jA hb 23 (.ptr eb 0 1)=some (.sl p.hm 4 (p.hard.map AY)):=by rw[BH L6 ge (row:=CX p) rfl]; rfl
 have l2:BO jA hb 23 (.ptr eb 0 2)=some (.sl p.sm 4 (p.soft.map AY)):=by rw[BH L6 ge (row:=CX p) rfl]; rfl
 have l3:BO jA hb 24 (.ptr eb 0 3)=some (.sl p.dm 2 (p.dists.map IJ)):=by rw[BH AP5 ge (row:=CX p) rfl]; rfl
 have l4:BO jA hb 25 (.ptr eb 0 4)=some (.sl p.gm 1 (p.groups.map QR)):=by rw[BH XN ge (row:=CX p) rfl]; rfl
 have hex:=hs.exprs;have happ:JW p.vars (p.hard++p.soft)=if JW p.vars p.hard≠0 then JW p.vars p.hard else JW p.vars p.soft:=fstE_app _ _ _
 refine AO l0 ?_;refine(nA G p.vars p.vm hb hs.vars hs.names).uu ?_;refine BG ?_ ?_<;>intro h1
 .refine Z ?_
  have h1:LD p.vars≠0:=BL h1;exact⟨by unfold JY; rw[if_pos h1],hxx⟩
 have h1:¬LD p.vars≠0:=BL h1;refine DI @dN l0 l1 ?_;refine(VR G p.vars p.vm hs.vars p.hard p.hm U (fun e he=>hs.wts e (zX.2 (.inl he))) hb).uu ?_;refine BG ?_ ?_<;>intro h2
 .refine Z ?_
  have h2:JW p.vars p.hard≠0:=BL h2;rw[if_pos h2] at happ;exact⟨by unfold JY; rw[if_neg h1,happ,if_pos h2],hxx⟩
 have h2:¬JW p.vars p.hard≠0:=BL h2;rw[if_neg h2] at happ;refine DI @lD l0 l2 ?_;refine(VR G p.vars p.vm hs.vars p.soft p.sm U (fun e he=>hs.wts e (zX.2 (.inr he))) hb).uu ?_;refine BG ?_ ?_<;>intro h3
 .refine Z ?_
  have h3:JW p.vars p.soft≠0:=BL h3;exact⟨by unfold JY; rw[if_neg h1,happ,if_pos h3],hxx⟩
 have h3:¬JW p.vars p.soft≠0:=BL h3;refine AQ l0 l3 ?_;refine(AKK G p.vars p.vm p.dists p.dm hs.vars hs.dists hs.ws hb).uu ?_;refine BG ?_ ?_<;>intro h4
 .refine Z ?_
  have h4:MN p.vars p.dists≠0:=BL h4;exact⟨by unfold JY; rw[if_neg h1,happ,if_neg h3,if_pos h4],hxx⟩
 have h4:¬MN p.vars p.dists≠0:=BL h4;refine DI @lC l0 l4 ?_;refine(AD1 G p.vars p.vm p.groups p.gm hs.vars hs.groups hs.members hb).uu ?_;refine BG ?_ ?_<;>intro h5
 .refine Z ?_
  have h5:¬gOK p.vars p.groups=true:=BL h5;exact⟨by unfold JY; rw[if_neg h1,happ,if_neg h3,if_neg h4,if_neg h5],hxx⟩
 .refine Z ?_
  have h5:gOK p.vars p.groups=true:=BL h5;exact⟨by unfold JY; rw[if_neg h1,happ,if_neg h3,if_neg h4,if_pos h5],hxx⟩
end
end Go.Proofs.YtiihpnicbekebaaGreatDoor.Bd
namespace Go.Proofs.YtiihpnicbekebaaGreatDoor.Bd
open Sm Bins Cov Xe Wd Go.RowKit
def OX (vars:List Vr)(a:List Int):List Sg:=List.zipWith (fun v z=>(v.name,z)) vars a
theorem XF {vars:List Vr}{a:List Int}(h:a.length=vars.length):(OX vars a).length=vars.length:=by unfold OX; simp; omega
theorem hJ {vars:List Vr}{a:List Int}{i:Nat}(h1:i<vars.length)(h2:i<a.length)(h:i<(OX vars a).length):(OX vars a)[i]=(vars[i].name,a[i]):=by simp [OX]
theorem A3Q (n:ByteArray)(z:Int):IR jA 209 [(0,.str n),(1,.n z)]=some (.agg (FY (n,z))):=AZ
theorem A3N (h:Hp)(s:Sg):C9 jA false h 137 1 [(0,.agg (FY s))]=some (.sl .full 2 [FY s],h):=AZ
end Go.Proofs.YtiihpnicbekebaaGreatDoor.Bd
namespace Go.Proofs.YtiihpnicbekebaaGreatDoor.Bl
open Sm Bins Cov Xe Wd Bd Go.RowKit
variable {p:Pr} {a:List Int}
def QCall (E:Env)(f:FuncId)(args:List AV)(h:Hp)(Q:AV->Prop):Prop:=ACalls E.nox f args h fun v h'=>Q v∧h'=h
theorem QCall.use {E:Env}{f:FuncId}{args:List AV}{h:Hp}{Q:AV->Prop}{K:AV->Hp->Prop}(hc:QCall E f args h Q)(hk:∀r,Q r->K r h):ACalls E f args h K :=
 ACalls.mono (ACalls.ofNox hc) fun r _ ⟨e1,e2⟩=>by rw[e2]; exact hk r e1
theorem ACalls.pureQ {E:Env}{f:FuncId}{args:List AV}{h:Hp}{R:AV->Hp->Prop}{Q:AV->Prop}(d:Nat)(hc:ACalls E f args h R)
  (hk:∀v h',R v h'->ext h h'∧Q (FI h.length h' d v)) (hX:E.nox=E:=by rfl):QCall E f args h Q:=by
 unfold QCall;rw[hX];refine hc.trunc fun v h' hR=>?_
 obtain⟨⟨x,rfl⟩,hr⟩:=hk v h' hR;exact⟨d,h,rfl,fun b hb=>.inr (.inl ⟨by rw[qH hb],by rw[qH hb]⟩),hr,rfl⟩
theorem QCall.args {E:Env}{f:FuncId}{args args':List AV}{h:Hp}{Q:AV->Prop}(hc:QCall E f args' h Q)(ha:CvRL args args'):QCall E f args h Q:=ACalls.args hc ha
theorem AOQ {h H:Hp}(hk:∀(k:Nat) (y:ABlk),h[k]?=some y->H[k]?=some y)(_:h.length<=H.length):ext h H:=by
 refine⟨H.drop h.length,?_⟩;apply List.ext_getElem?;intro i;by_cases hi:i<h.length
 .rw[qH hi,jI hi]
  exact hk i _ (jI hi)
 .rw[List.getElem?_append_right U,List.getElem?_drop,show h.length+(i-h.length)=i by omega]
theorem getD_set_eq {l:List Int}{i:Nat}(h:i<l.length)(x:Int):(l.set i x).getD i 0=x:=by
 rw[qY,List.getElem?_set,if_pos rfl,if_pos h]; rfl
theorem getD_set_ne {l:List Int}{i j:Nat}(h:i≠j)(x:Int):(l.set i x).getD j 0=l.getD j 0:=by
 rw[qY,qY,List.getElem?_set_ne h]
theorem AWA {a:Nat}(h:a<=8):(2:Int)^a<=256:=by
 have:a=0∨a=1∨a=2∨a=3∨a=4∨a=5∨a=6∨a=7∨a=8:=U;rcases this with rfl|rfl|rfl|rfl|rfl|rfl|rfl|rfl|rfl<;>decide
theorem U1 {v:Vr}(h:vrE v=0):FK v.name=true∧1<=v.width∧v.width<=8∧0<=v.mode∧v.mode<=2∧0<=v.value∧v.value<2^v.width.toNat∧(v.mode≠0->v.value=0):=by
 unfold vrE at h;by_cases hv:FK v.name=true
 .rw[if_pos hv] at h
  have hb:NL v=false:=by
   cases hb:NL v
   .rfl
   .rw[hb] at h; simp at h
  unfold NL at hb;simp only[Bool.or_eq_false_iff,decide_eq_false_iff_not,Bool.and_eq_false_iff] at hb;obtain⟨⟨⟨⟨⟨⟨h1,h2⟩,h3⟩,h4⟩,h5⟩,h6⟩,h7⟩:=hb;refine⟨hv,U,U,U,U,U,U,fun hm=>?_⟩;rcases h7 with q|q
  .simp at q; omega
  .simpa using q
 .rw[if_neg hv] at h; exact absurd h DK
structure PV (p:Pr):Prop where
 len:p.vars.length<=16
 vr:∀v∈p.vars,vrE v=0
 nd:∀(i:Nat) (hi:i<p.vars.length),plc (p.vars.take i) p.vars[i].name<0
 bits:JU p.vars<=20
 g:gOK p.vars p.groups=true
theorem PV.of (h:JY p=0):PV p:=by
 unfold JY at h
 have h1:LD p.vars=0:=by
  by_cases q:LD p.vars=0
  .exact q
  .rw[if_pos q] at h; exact absurd h q
 rw[if_neg (BL h1)] at h
 have h2:JW p.vars (p.hard++p.soft)=0:=by
  by_cases q:JW p.vars (p.hard++p.soft)=0
  .exact q
  .rw[if_pos q] at h; exact absurd h q
 rw[if_neg (BL h2)] at h
 have h3:MN p.vars p.dists=0:=by
  by_cases q:MN p.vars p.dists=0
  .exact q
  .rw[if_pos q] at h; exact absurd h q
 rw[if_neg (BL h3)] at h
 have h4:gOK p.vars p.groups=true:=by
  cases q:gOK p.vars p.groups
  .rw[q] at h; simp at h
  .rfl
 unfold LD at h1;have a1:¬p.vars.length>16:=fun q=>by rw[if_pos q] at h1; exact absurd h1 DK
 rw[if_neg a1] at h1
 have a2:Bd.fstE vrE p.vars=0:=by
  by_cases q:Bd.fstE vrE p.vars=0
  .exact q
  .rw[if_pos q] at h1; exact absurd h1 q
 rw[if_neg (BL a2)] at h1
 have a3:uK p.vars=false:=by
  cases q:uK p.vars
  .rfl
  .rw[q] at h1; simp at h1
 rw[if_neg (by rw[a3]; decide)] at h1
 have a4:(p.vars.any fun v=>PL p.vars v.name)=false:=by
  cases q:(p.vars.any fun v=>PL p.vars v.name)
  .rfl
  .rw[if_pos q] at h1; exact absurd h1 DK
 rw[if_neg (by rw[a4]; decide)] at h1;have a5:¬JU p.vars>20:=fun q=>by rw[if_pos q] at h1; exact absurd h1 DK
 refine⟨U,fun v hv=>fstE_zero a2 v hv,fun i hi=>?_,U,h4⟩;have:=of_decide_eq_false a3;have q:¬0<=plc (p.vars.take i) p.vars[i].name:=fun q=>this ⟨⟨i,hi⟩,q⟩
 omega
structure AOk (p:Pr) (a:List Int):Prop where
 len:a.length=p.vars.length
 st:∀(i:Nat) (hi:i<p.vars.length),p.vars[i].mode=0->a.getD i 0=p.vars[i].value
 rn:∀(i:Nat) (hi:i<p.vars.length),p.vars[i].mode≠0->0<=a.getD i 0∧a.getD i 0<2^p.vars[i].width.toNat
theorem AOk.rng (P:PV p)(h:AOk p a)(i:Nat)(hi:i<p.vars.length):0<=a.getD i 0∧a.getD i 0<256:=by
 obtain⟨_,w1,w8,_,_,v0,v1,_⟩:=U1 (P.vr _ (jH hi));have hp:=AWA (U:p.vars[i].width.toNat<=8);by_cases hm:p.vars[i].mode=0
 .rw[h.st i hi hm]; omega
 .have:=h.rn i hi hm; omega
def nxK (vs:List Vr):Nat->List Int->Option (List Int)
 | 0,_=>none
 | k+1,a=>match vs[k]? with
   | some v=>if v.mode=0 then nxK vs k a else if a.getD k 0+1<2^v.width.toNat then some (a.set k (a.getD k 0+1)) else nxK vs k (a.set k 0)
   | none=>none
def rkP (vs:List Vr)(a:List Int):Nat->Nat
 | 0=>0
 | k+1=>match vs[k]? with
   | some v=>if v.mode=0 then rkP vs a k else rkP vs a k*2^v.width.toNat+(a.getD k 0).toNat
   | none=>rkP vs a k
def nB (vs:List Vr):Nat->Nat
 | 0=>1
 | k+1=>match vs[k]? with
   | some v=>if v.mode=0 then nB vs k else nB vs k*2^v.width.toNat
   | none=>nB vs k
theorem sL (vs:List Vr)(a:List Int)(z:Int):∀(k i:Nat),k<=i->rkP vs (a.set i z) k=rkP vs a k
 | 0,_,_=>rfl
 | k+1,i,h=>by
   simp only[rkP];rw[sL vs a z k i U,getD_set_ne U]
theorem kH {p:Pr}:∀(k:Nat) (a:List Int),k<=p.vars.length->AOk p a->match nxK p.vars k a with
  | some a'=>AOk p a'∧rkP p.vars a' k=rkP p.vars a k+1∧∀i,k<=i->a'.getD i 0=a.getD i 0
  | none=>True
 | 0,a,_,_=>trivial
 | k+1,a,hk,h=>by
   have hk':k<p.vars.length:=U;have hak:k<a.length:=by rw[h.len]; exact hk'
   unfold nxK;simp only[jI hk'];by_cases hm:p.vars[k].mode=0
   .rw[if_pos hm]
    have ih:=kH k a U h
    cases hn:nxK p.vars k a with
    | none=>trivial
    | some a' =>
      rw[hn] at ih;obtain⟨i1,i2,i3⟩:=ih;refine⟨i1,?_,fun i hi=>i3 i U⟩;simp only[rkP,jI hk',if_pos hm];exact i2
   .rw[if_neg hm]
    obtain⟨q0,q1⟩:=h.rn k hk' hm
    have setok:∀z:Int,0<=z->z<2^p.vars[k].width.toNat->AOk p (a.set k z):=fun z z0 z1=>by
     refine⟨by rw[List.length_set]; exact h.len,fun i hi hmi=>?_,fun i hi hmi=>?_⟩
     .by_cases e:i=k
      .subst e; exact absurd hmi hm
      .rw[getD_set_ne (fun q=>e q.symm)]; exact h.st i hi hmi
     .by_cases e:i=k
      .subst e; rw[getD_set_eq hak]; exact⟨z0,z1⟩
      .rw[getD_set_ne (fun q=>e q.symm)]; exact h.rn i hi hmi
    by_cases hz:a.getD k 0+1<2^p.vars[k].width.toNat
    .rw[if_pos hz]
     refine⟨setok _ U hz,?_,fun i hi=>getD_set_ne U _⟩;simp only[rkP,jI hk',if_neg hm];rw[sL _ _ _ _ _ (jF k),getD_set_eq hak];omega
    .rw[if_neg hz]
     have hp:(0:Int)<2^p.vars[k].width.toNat:=Int.pow_pos DK;have ih:=kH k (a.set k 0) U (setok 0 (Int.le_refl 0) hp)
     cases hn:nxK p.vars k (a.set k 0) with
     | none=>trivial
     | some a' =>
       rw[hn] at ih;obtain⟨i1,i2,i3⟩:=ih;refine⟨i1,?_,fun i hi=>by rw[i3 i U]; exact getD_set_ne U _⟩;simp only[rkP,jI hk',if_neg hm];rw[i2,i3 k (jF k),getD_set_eq hak,sL _ _ _ _ _ (jF k)];have e:(((2:Nat)^p.vars[k].width.toNat:Nat):Int)=2^p.vars[k].width.toNat:=by rw[Int.natCast_pow]; rfl
       have:(a.getD k 0).toNat+1=2^p.vars[k].width.toNat:=U;rw[qC];simp only[Int.toNat_zero];omega
theorem AC3 {p:Pr}{a:List Int}(h:AOk p a):∀k,k<=p.vars.length->rkP p.vars a k<nB p.vars k
 | 0,_=>by simp [rkP,nB]
 | k+1,hk=>by
   have hk':k<p.vars.length:=U;have ih:=AC3 h k U;simp only[rkP,nB,jI hk'];by_cases hm:p.vars[k].mode=0
   .rw[if_pos hm,if_pos hm]; exact ih
   .rw[if_neg hm,if_neg hm]
    obtain⟨q0,q1⟩:=h.rn k hk' hm;have e:(((2:Nat)^p.vars[k].width.toNat:Nat):Int)=2^p.vars[k].width.toNat:=by rw[Int.natCast_pow]; rfl
    have h1:(a.getD k 0).toNat<2^p.vars[k].width.toNat:=U;have h2:(rkP p.vars a k+1)*2^p.vars[k].width.toNat<=nB p.vars k*2^p.vars[k].width.toNat:=Nat.mul_le_mul_right _ ih;rw[qC] at h2;omega
def ACZ (p:Pr)(l:List Ex)(a:List Int):Bool:=l.all fun e => !(YK (OX p.vars a) e==0)
def nE (p:Pr)(l:List Ex):Nat->List Int->Option (List Int)
 | 0,_=>none
 | n+1,a=>if ACZ p l a=true then some a else match nxK p.vars p.vars.length a with
   | some b=>nE p l n b
   | none=>none
def lft (p:Pr)(a:List Int):Nat:=nB p.vars p.vars.length-rkP p.vars a p.vars.length
theorem AR6 (h:AOk p a):0<lft p a:=by
 have:=AC3 h p.vars.length (jF _);unfold lft; omega
theorem yW {b:List Int}(h:AOk p a)(hn:nxK p.vars p.vars.length a=some b):AOk p b∧lft p b+1=lft p a:=by
 have hs:=kH p.vars.length a (jF _) h;rw[hn] at hs;obtain⟨h1,h2,_⟩:=hs;have h3:=AC3 h1 p.vars.length (jF _);exact⟨h1,by unfold lft; omega⟩
def bH (p:Pr):List Int:=p.vars.map Vr.value
theorem ASP (P:PV p):AOk p (bH p):=by
 have hg:∀(i:Nat) (hi:i<p.vars.length),(bH p).getD i 0=p.vars[i].value:=fun i hi=>by
  unfold bH;rw[qY,List.getElem?_map,jI hi]; rfl
 refine⟨by unfold bH; simp,fun i hi _=>hg i hi,fun i hi hm=>?_⟩;obtain⟨_,_,_,_,_,v0,v1,_⟩:=U1 (P.vr _ (jH hi));rw[hg i hi];exact⟨v0,v1⟩
def TT (p:Pr)(l:List Ex):Option (List Int):=nE p l (lft p (bH p)) (bH p)
end Go.Proofs.YtiihpnicbekebaaGreatDoor.Bl
namespace Go.Proofs.YtiihpnicbekebaaGreatDoor.Xe
open Sm Bins Cov Wd Go.RowKit
def hK (last:List Int)(v kind:Int)(b:Bin):Bool:=(b.kind==kind)&&(if(kind==0)=true then hit b last v else inside b.ranges.l v)
theorem AWW {α:Type}{k:Nat}{f:α->List AV}{ys:List α}(h:ys≠[]):fzG k f ys=.sl .any k (ys.map f):=by
 cases ys with
 | nil=>exact absurd rfl h
 | cons y ys=>rfl
theorem AWH (o off len:Nat):H9 Tryz.prog 32 .eql (.own o off len) (.sl .nil 0 [])=some (.bool false):=AZ
theorem AKT (G:Nat->AV){h:Hp}{o off len:Nat}{xs:List Int}(ho:h[o]?=some (qF 1 (xs.map qencI)))(hl:off+len=xs.length)(h0:0<len)(hm:xs.length<=1048576) :
  ACalls (En G) 189 [.own o off len] h fun v H=>v=.own h.length 0 len∧H=h++[qF 1 ((xs.drop off).map qencI)]:=by
 refine acT Tryz.func189 2 ?_
 have hc:JF h (.own o off len)=some (1,(xs.drop off).map qencI):=by
  rw[J6 ho MS,<-List.map_drop,List.take_of_length_le MS]
 have hne:(xs.drop off).map qencI≠[]:=by
  intro e;have:=congrArg List.length e;simp at this; omega
 refine AQ @AWH @APH ?_;refine JR (mM fP sz3 AH6 uN hc hne (I5 MS U)) ?_;refine Z ?_;exact⟨by simp; omega,A8⟩
theorem outG.ext {α:Type}{k:Nat}{f:α->List AV}{h H H':Hp}{ys:List α}{v:AV}(ho:outG k f h ys v H)(hx:Sm.ext H H'):outG k f h ys v H':=by
 obtain⟨y,rfl⟩:=hx;exact ho.app y
theorem hbs {α β:Type}(f:α->β)(l:List α)(k:Nat){h:k<l.length}:(l.take k).map f++[f l[k]]=(l.take (k+1)).map f:=by rw[List.take_succ_eq_append_getElem h,List.map_append]; rfl
end Go.Proofs.YtiihpnicbekebaaGreatDoor.Xe
namespace Go.Proofs.YtiihpnicbekebaaGreatDoor.Bd.Cl
open Sm Bins Cov Xe Wd Bl Go.RowKit
variable {H:Hp}
abbrev isI (H:Hp)(b:Nat)(xs:List Int):Prop:=H[b]?=some (qF 1 (xs.map qencI))
theorem isI.ix {H:Hp}{b:Nat}{xs:List Int}(h:isI H b xs){n i:Nat}{kk:IntKind}(hi:i<n):JM 1 H (.own b 0 n) (.int kk (i:Nat))=some (.ptr b i 0):=by rw[IG h hi,jG]
theorem isI.ld {H:Hp}{b:Nat}{xs:List Int}(h:isI H b xs){i:Nat}(hi:i<xs.length):BO jA H 3 (.ptr b i 0)=some (.n (xs.getD i 0)):=by
 rw[BH ag3 h (row:=qencI xs[i]) (row_map hi),qY,jI hi]; rfl
theorem isI.st {b:Nat}{xs:List Int}(h:isI H b xs){i:Nat}(hi:i<xs.length)(z:Int):DX jA H 3 (.ptr b i 0) (.n z)=some (H.set b (qF 1 ((xs.set i z).map qencI))):=by
 rw[G9 (cs:=[.n z]) rfl sz3 h (row_map hi) (by simp [qencI]),List.map_set]; rfl
theorem cR0 (n:Nat):cR [] n=(zD n (0:Int)).map qencI:=by
 apply List.ext_getElem?;intro i;by_cases hi:i<n
 .rw[XJ _ hi,List.getElem?_map,List.getElem?_replicate,if_pos hi]; rfl
 .rw[zW (by rw[Z5]; omega),zW MS]
theorem mkI (h:Hp)(n:Nat)(hn:n<=1048576):GL jA true h 32 (.n (n:Int)) (.n (n:Int))=some (.own h.length 0 n,h++[qF 1 ((zD n (0:Int)).map qencI)]):=by
 rw[AY8 h n hn,cR0]
structure KB (B:List Nat) (H H':Hp):Prop where
 len:H.length<=H'.length
 keep:∀(k:Nat) (y:ABlk),H[k]?=some y->k ∉ B->H'[k]?=some y
theorem KB.rfl' (B:List Nat)(H:Hp):KB B H H:=⟨jF _,fun _ _ h _=>h⟩
theorem KB.app {B:List Nat}{H':Hp}(k:KB B H H')(x:ABlk):KB B H (H'++[x]):=⟨by have:=k.len; simp; omega,fun i y q hn=>AL (k.keep i y q hn)⟩
theorem KB.set {B:List Nat}{H H':Hp}(k:KB B H H'){b:Nat}(hb:b∈B)(x:ABlk):KB B H (H'.set b x) :=
 ⟨by rw[qX]; exact k.len,fun i y q hn=>by rw[zL (fun e=>hn (by rw[<-e]; exact hb))]; exact k.keep i y q hn⟩
theorem KB.trans {B:List Nat}{H1 H2:Hp}(a:KB B H H1)(b:KB B H1 H2):KB B H H2:=⟨Nat.le_trans a.len b.len,fun i y q hn=>b.keep i y (a.keep i y q hn) hn⟩
theorem AYS:∀w:Nat,w<=8->H9 jA 3 .shl (.n 1) (.n (w:Nat))=some (.n (2^w))
 | 0,_=>AZ
 | 1,_=>AZ
 | 2,_=>AZ
 | 3,_=>AZ
 | 4,_=>AZ
 | 5,_=>AZ
 | 6,_=>AZ
 | 7,_=>AZ
 | 8,_=>AZ
 | n+9,h=>absurd h U
theorem nM {b:Nat}{p:Pr}(hb:H[b]?=some (qF 5 [CX p])):BO jA H 22 (.ptr b 0 0)=some (.sl p.vm 4 (p.vars.map encV)):=by rw[BH YQ hb (row:=CX p) rfl]; rfl
theorem ARH (l:List Vr)(n:ByteArray):(l.any (NE n)) = !decide (plc l n<0):=by
 unfold plc;rw[<-QP,<-decide_not,decide_eq_decide]; omega
theorem al9 (h:Hp):F9 jA h 9=some (.ptr h.length 0 0,h++[qF 1 [[.str ⟨#[]⟩]]]):=FC (row:=[.str ⟨#[]⟩]) AZ
theorem st9 (h:Hp)(n:ByteArray):DX jA (h++[qF 1 [[.str ⟨#[]⟩]]]) 9 (.ptr h.length 0 0) (.str n)=some (h++[qF 1 [[.str n]]]):=by
 rw[IY (cs:=[.str n]) (row:=[.str ⟨#[]⟩]) rfl sz9 (AX _ _) (jF 1),KH]; rfl
theorem al79 (h:Hp):F9 jA h 79=some (.ptr h.length 0 0,h++[qF 4 [[.n 0,.n 0,.str ⟨#[]⟩,.sl .nil 0 []]]]):=FC (row:=[.n 0,.n 0,.str ⟨#[]⟩,.sl .nil 0 []]) AZ
theorem st79 (h:Hp)(e:Ex):DX jA (h++[qF 4 [[.n 0,.n 0,.str ⟨#[]⟩,.sl .nil 0 []]]]) 79 (.ptr h.length 0 0) (.agg (AY e))=some (h++[qF 4 [AY e]]):=by
 have hle:(AY e).length=4:=EF _;rw[IY (cs:=AY e) (row:=[.n 0,.n 0,.str ⟨#[]⟩,.sl .nil 0 []]) (PI (by rw[EY]; rfl)) (by rw[hle]; exact I8) (AX _ _) (by rw[hle]; exact jF 4),KH]
 have:splice [.n 0,.n 0,.str ⟨#[]⟩,.sl .nil 0 []] 0 (AY e)=AY e:=by
  unfold splice; rw[qB,List.drop_eq_nil_of_le (by rw[hle]; exact jF 4)]; simp
 rw[this]
section
variable (G:Nat->AV)
theorem AZ3 (v:Vr)(n:ByteArray)(c:Nat)(h:Hp)(hc:h[c]?=some (qF 1 [[.str n]])):PCall (En G) 306 ([.agg (encV v)]++[.ptr c 0 0]) h (.bool (NE n v)):=by
 refine ACalls.pure0 rfl ?_;refine acT Tryz.func306 3 ?_;have hc':(h++[qF 4 [encV v]])[c]?=_:=AL hc;refine JZ @bxV @encV0 (FZ ag9 hc') ?_;exact⟨rfl,_,rfl⟩
theorem known_prog (hG:GOk G)(p:Pr)(hl:p.vars.length<=1048576)(e:Ex)(hw:wt e<=1048576)(h:Hp):PCall (En G) 259 [.agg (CX p),.agg (AY e)] h (.bool (xpE p.vars e==0)):=by
 refine ACalls.pure0 rfl ?_;refine acT Tryz.func259 4 ?_;have gp:=AL (x:=qF 4 [AY e]) (AX h (qF 5 [CX p]));have gE:=AX (h++[qF 5 [CX p]]) (qF 4 [AY e]);have hxx:ext h (h++[qF 5 [CX p]]++[qF 4 [AY e]]):=((ext.rfl' h).app _).app _;refine AQ @SS @bxE ?_
 generalize (h++[qF 5 [CX p]]).length=eb at gE|-
 generalize h++[qF 5 [CX p]]++[qF 4 [AY e]]=H1 at gp gE hxx|-
 generalize h.length=pb at gp|-
 refine AO (IW gE) ?_;refine(NT G hG e _ hw).use ?_;cases b1:(exE e != 0)
 rotate_left
 .have he:exE e≠0:=by simpa [bne] using b1
  refine AO b1 ?_;exact⟨by rw[show xpE p.vars e=exE e from if_pos he]; simp [he],hxx⟩
 have he:exE e=0:=by simpa [bne] using b1
 have hxp:xpE p.vars e=plE p.vars e:=by unfold xpE; rw[if_neg (by simp [he])]
 refine AQ b1 (IW gE) ?_;refine(XT G e hw _).use ?_;refine AO @APZ ?_;refine BG ?_ ?_<;>intro ha
 .refine Z ?_
  exact⟨by rw[hxp]; unfold plE; rw[if_pos ha]; rfl,hxx⟩
 refine AO (IW gE) ?_;refine(aD G e hw _).use ?_
 have hnl:(nmL [2] [] (pre e)).length<=1048576:=by
  have h1:=X5 [2] (pre e) [];have h2:=VA e;simp at h1; omega
 have hfr:=AOG p.vars e
 generalize nmL [2] [] (pre e)=ns at hnl hfr|-
 have hpl:ns.any (fun n=>decide (plc p.vars n<0)) = !(xpE p.vars e==0):=by
  rw[hfr,hxp]; unfold plE; rw[ha]; cases gB p.vars e<;>rfl
 refine Z ?_
 refine BB (fun n F H=>∃i,n+i=ns.length∧(∀x∈ns.take i,decide (plc p.vars x<0)=false)∧F 2=.ptr pb 0 0∧F 17=.sl (nm ns) 1 (ns.map qencStr)∧F 18=.n (ns.length:Nat)∧F 19=.n (i:Nat)∧H[pb]?=some (qF 5 [CX p])∧ext h H) ns.length
  ⟨0,A8,A8,AC,AC,AC,AC,gp,hxx⟩ ?_
 clear gp gE hxx;rintro n F H ⟨i,hi,hb,f2,f17,f18,f19,gp,hxx⟩;refine AQ f18 f19 ?_;refine DU ?_ ?_<;>intro hi'
 .simp -implicitDefEqProofs only[vQ,CJ,↓reduceIte,jC,enP,Y0,jQ,f17,f19,CG hi',AUQ hi',al9,st9]
  have gp1:(H++[qF 1 [[.str ns[i]]]])[pb]?=_:=AL gp;have hx1:=hxx.app [qF 1 [[.str ns[i]]]];refine AQ f2 (nM gp1) ?_;refine(AGU G p.vars p.vm 306 [.ptr H.length 0 0] (NE ns[i]) _ U fun x _=>AZ3 G x ns[i] H.length _ (AX _ _)).use ?_;refine AO @ARH ?_;refine BG ?_ ?_<;>intro hd
  .have hd:decide (plc p.vars ns[i]<0)=true:=BL hd
   refine Z ?_;refine⟨?_,hx1⟩;have:ns.any (fun n=>decide (plc p.vars n<0))=true:=List.any_eq_true.2 ⟨_,jH hi',hd⟩;rw[hpl] at this
   cases hz:(xpE p.vars e==0)<;>rw[hz] at this<;>first|rfl|cases this
  .have hd:decide (plc p.vars ns[i]<0)=false:=BL hd
   refine AQ f19 (CW i) ?_;refine⟨n-1,U,i+1,U,fun x hx=>?_,A7,A7,A7,rfl,gp1,hx1⟩;rw[jW hi'] at hx;rcases List.mem_append.1 hx with h1|h1
   .exact hb x h1
   .rw[List.mem_singleton.1 h1]; exact hd
 .rw[jJ U] at hb
  refine Z ?_;refine⟨?_,hxx⟩;have:ns.any (fun n=>decide (plc p.vars n<0))=false:=List.any_eq_false.2 fun x hx=>by rw[hb x hx]; simp
  rw[hpl] at this
  cases hz:(xpE p.vars e==0)<;>rw[hz] at this<;>first|rfl|cases this
theorem AUB (p:Pr)(hs:PrS p)(a:List Int)(b:Nat)(hl:a.length=p.vars.length)(h:Hp)(hb:isI h b a):ACalls (En G) 72 [.agg (CX p),.own b 0 a.length] h fun v H=>ext h H∧outG 2 FY h (OX p.vars a) v H:=by
 have hvl:=hs.vars;have hel:=XF hl;refine J7 (H:=hint [31] []) (enM G) Tryz.func72 rfl (by kernel_rfl) (by kernel_rfl) (jB (by kernel_rfl)) ?_;show awp _ _ _ _ _ (NU _ [.tmp 4] _);have ge:=AX h (qF 5 [CX p]);have hb0:isI (h++[qF 5 [CX p]]) b a:=AL hb;have hx:ext h (h++[qF 5 [CX p]]):=(ext.rfl' h).app _;have hh:h.length<=(h++[qF 5 [CX p]]).length:=A8;refine AO @SS ?_
 generalize h++[qF 5 [CX p]]=H0 at ge hb0 hx hh|-
 generalize hpb:h.length=pb at ge hh|-
 have l22:∀ {H:Hp},Sm.ext H0 H->BO jA H 22 (.ptr pb 0 0)=some (.sl p.vm 4 (p.vars.map encV)):=fun q=>nM (EJ q ge)
 have hne:(((a.length:Nat):Int) != ((p.vars.length:Nat):Int))=false:=by rw[hl]; simp
 refine AQ (l22 (ext.rfl' H0)) hne ?_
 refine BB (fun n F H=>∃i u,n+i=p.vars.length∧F 1=.own b 0 a.length∧F 2=.ptr pb 0 0∧F 5=u∧F 15=.sl p.vm 4 (p.vars.map encV)∧F 16=.n (p.vars.length:Nat)∧F 17=.n (i:Nat)∧ext H0 H∧outG 2 FY H0 ((OX p.vars a).take i) u H) p.vars.length
  ⟨0,.sl .nil 0 [],A8,AC,AC,AC,AC,AC,AC,ext.rfl' _,outG.nil _ _ _ _⟩ ?_
 rintro n F H ⟨i,u,hi,f1,f2,f5,f15,f16,f17,hxH,ho⟩;refine AQ f16 f17 ?_;refine DU (fun hiv=>?_) (fun hi'=>?_)
 .have hi':i<a.length:=U
  have hie:i<(OX p.vars a).length:=U;have hxH1:=hxH.app [qF 4 [encV p.vars[i]]];have ho1:=ho.app [qF 4 [encV p.vars[i]]];have gv:=AX H (qF 4 [encV p.vars[i]]);simp -implicitDefEqProofs only[vQ,zA,jY,zB,zY,CJ,↓reduceIte,jC,enP,dE,IX,jQ,f15,f17,CG hiv,ldV hiv,Bd.al61,Bd.st61]
  generalize hH1:H++[qF 4 [encV p.vars[i]]]=H1 at hxH1 ho1 gv|-
  obtain⟨v',H',ha,ho',_,hx',_,_⟩:=ho1.append (P:=jA) AYD AZ AX0 A0T U (by rw[jU]; omega) hxH1 (p.vars[i].name,a[i]);rw[<-hJ hiv hi' hie,<-jW hie] at ho';have ln:BO jA H1 9 (.ptr H.length 0 0)=some (.str p.vars[i].name):=by rw[BH ag9 gv (row:=encV p.vars[i]) rfl]; rfl
  have hbH:isI H1 b a:=EJ hxH1 hb0;have la:BO jA H1 3 (.ptr b i 0)=some (.n a[i]):=by rw[hbH.ld hi',qY,jI hi']; rfl
  refine DJ AZ ?_;simp -implicitDefEqProofs only[vQ,LC,KD,zA,jY,zB,zY,LQ,aJ,KX,IL,CJ,P9,GH,JX,↓reduceIte,jC,jP,enP,KJ,YG,IX,f1,f5,hbH.ix (show i<a.length from hi'),ln,la,A3Q,A3N,ha,f17,CW i];exact⟨n-1,U,i+1,v',U,A7,A7,A7,A7,A7,A7,hx',ho'⟩
 .rw[jJ U] at ho
  refine AO f5 ?_;refine⟨hx.trans hxH,?_⟩;rcases ho with⟨a,b⟩|⟨a,o,b,c,d⟩
  .exact .inl ⟨a,b⟩
  .exact .inr ⟨a,o,U,c,d⟩
end
def fdr (p:Pr)(lm:SM)(l:List Ex)(ab n:Nat)(ov:Bool)(st:Int):List AV:=[.sl p.vm 4 (p.vars.map encV),.sl p.hm 4 (p.hard.map AY),.sl p.sm 4 (p.soft.map AY),.sl p.dm 2 (p.dists.map IJ),.sl p.gm 1 (p.groups.map QR),.sl lm 4 (l.map AY),.own ab 0 n,.bool ov,.n st]
abbrev isF (H:Hp)(fb:Nat)(p:Pr)(lm:SM)(l:List Ex)(ab n:Nat)(ov:Bool)(st:Int):Prop:=H[fb]?=some (qF 9 [fdr p lm l ab n ov st])
section
variable {H:Hp} {fb:Nat} {p:Pr} {lm:SM} {l:List Ex} {ab n:Nat} {ov:Bool} {st:Int}
theorem isF.vs (h:isF H fb p lm l ab n ov st):BO jA H 22 (.ptr fb 0 0)=some (.sl p.vm 4 (p.vars.map encV)):=by rw[BH YQ h rfl]; rfl
theorem isF.pr (h:isF H fb p lm l ab n ov st):BO jA H 27 (.ptr fb 0 0)=some (.agg (CX p)):=by rw[EH mP fR h rfl (by show 0+5<=9; omega)]; rfl
theorem isF.es (h:isF H fb p lm l ab n ov st):BO jA H 23 (.ptr fb 0 5)=some (.sl lm 4 (l.map AY)):=by rw[BH L6 h rfl]; rfl
theorem isF.as (h:isF H fb p lm l ab n ov st):BO jA H 32 (.ptr fb 0 6)=some (.own ab 0 n):=by rw[BH MO h rfl]; rfl
theorem isF.ovd (h:isF H fb p lm l ab n ov st):BO jA H 4 (.ptr fb 0 7)=some (.bool ov):=by rw[BH ag4 h rfl]; rfl
theorem isF.std (h:isF H fb p lm l ab n ov st):BO jA H 3 (.ptr fb 0 8)=some (.n st):=by rw[BH ag3 h rfl]; rfl
theorem isF.setSt (h:isF H fb p lm l ab n ov st)(z:Int):DX jA H 3 (.ptr fb 0 8) (.n z)=some (H.set fb (qF 9 [fdr p lm l ab n ov z])):=by
 rw[IY (cs:=[.n z]) rfl sz3 h (by show 8+1<=9; omega)]; rfl
theorem isF.setOv (h:isF H fb p lm l ab n ov st)(z:Bool):DX jA H 4 (.ptr fb 0 7) (.bool z)=some (H.set fb (qF 9 [fdr p lm l ab n z st])):=by
 rw[IY (cs:=[.bool z]) rfl sz4 h (by show 7+1<=9; omega)]; rfl
end
section
variable (G:Nat->AV)
theorem uU (p:Pr)(hs:PrS p)(P:PV p)(lm:SM)(l:List Ex)(st:Int)(a:List Int)(ok:AOk p a)(fb ab:Nat)(hne:fb≠ab)(h:Hp)(hf:isF h fb p lm l ab a.length false st)(hb:isI h ab a):
  ACalls (En G) 260 [.ptr fb 0 0] h fun _ H=>KB [fb,ab] h H∧match nxK p.vars p.vars.length a with
  | some a'=>isF H fb p lm l ab a.length false st∧isI H ab a'
  | none=>isF H fb p lm l ab a.length true st∧∃a',a'.length=a.length∧isI H ab a':=by
 generalize hO:nxK p.vars p.vars.length a=O;have hvl:=hs.vars;refine acL Tryz.func260 [] ?_;have hal:a.length=p.vars.length:=ok.len;have z1:IntKind.i64.wrap (((a.length:Nat):Int)-1)=((a.length:Nat):Int)-1:=wrap_i64 U U;refine DI @VF @hf.as z1 ?_;refine D9 0 (fun F H=>KB [fb,ab] h H∧O=none∧F 0=.ptr fb 0 0∧isF H fb p lm l ab a.length false st∧∃a',a'.length=a.length∧isI H ab a') (fun F H=>KB [fb,ab] h H∧∃a',O=some a'∧isF H fb p lm l ab a.length false st∧isI H ab a') ?_ ?_ ?_
 .refine BB (fun n F H=>∃k c,n=k∧k<=p.vars.length∧AOk p c∧nxK p.vars k c=O∧KB [fb,ab] h H∧isI H ab c∧isF H fb p lm l ab a.length false st∧F 0=.ptr fb 0 0∧F 2=.n (((k:Nat):Int)-1)) p.vars.length
   ⟨p.vars.length,a,rfl,jF _,ok,hO,KB.rfl' _ _,hb,hf,AC,by refine Z ?_; rw[hal]⟩ ?_
  clear hb hf;rintro n F H ⟨k,c,rfl,hkn,okc,hS,k1,qb,hf,f0,f2⟩;have ec:decide (((n:Nat):Int)-1≥0)=decide (1<=n):=by rw[decide_eq_decide]; omega
  refine AQ f2 ec ?_;refine BG ?_ ?_<;>intro hc
  .have h1:1<=n:=BL hc
   obtain⟨i,rfl⟩:∃i,n=i+1:=⟨n-1,U⟩;have hi:i<p.vars.length:=U;have hic:i<c.length:=by rw[okc.len]; exact hi
   have hia:i<a.length:=U;have ei:((((i+1:Nat):Int))-1)=((i:Nat):Int):=U;rw[ei] at f2;unfold nxK at hS;simp only[jI hi] at hS;obtain⟨_,w1,w8,_⟩:=U1 (P.vr _ (jH hi));have lmd:∀H:Hp,BO jA H 3 (.fptr 4 (p.vars.map encV) i 2)=some (.n p.vars[i].mode):=fun H=>by rw[BP ag3 hi]; rfl
   have zi:IntKind.i64.wrap (((i:Nat):Int)-1)=((i:Nat):Int)-1:=wrap_i64 U U;refine cK @tY f0 f2 @hf.vs hi lmd ?_;refine BG ?_ ?_<;>intro hm
   .have hm:p.vars[i].mode=0:=BL hm
    rw[if_pos hm] at hS;refine AQ f2 zi ?_;exact⟨i,U,i,c,rfl,U,okc,hS,k1,qb,hf,A7,A7⟩
   .have hm:¬p.vars[i].mode=0:=BL hm
    rw[if_neg hm] at hS;obtain⟨q0,q1⟩:=okc.rn i hi hm;obtain⟨r0,r1⟩:=okc.rng P i hi;have zz:IntKind.i64.wrap (c.getD i 0+1)=c.getD i 0+1:=wrap_i64 U U;have qb1:=qb.st (i:=i) hic (c.getD i 0+1);have qbs:isI (H.set ab (qF 1 ((c.set i (c.getD i 0+1)).map qencI))) ab (c.set i (c.getD i 0+1)):=CQ qb;have hf1:isF (H.set ab (qF 1 ((c.set i (c.getD i 0+1)).map qencI))) fb p lm l ab a.length false st:=by unfold isF; rw[zL (Ne.symm hne)]; exact hf
    have k2:KB [fb,ab] h (H.set ab (qF 1 ((c.set i (c.getD i 0+1)).map qencI))):=k1.set A8 _;obtain⟨w,hw⟩:=Int.eq_ofNat_of_zero_le (U:0<=p.vars[i].width);have lw:∀H:Hp,BO jA H 3 (.fptr 4 (p.vars.map encV) i 1)=some (.n (w:Nat)):=fun H=>by rw[BP ag3 hi]; show some (AV.int .i64 p.vars[i].width)=_; rw[hw]
    rw[hw,Int.toNat_natCast] at hS q1;refine aF @VF f0 f2 @hf.as @qb.ix hia @qb.ld hic zz qb1 ?_
    generalize H.set ab (qF 1 ((c.set i (c.getD i 0+1)).map qencI))=H1 at qbs hf1 k2|-
    have hic1:i<(c.set i (c.getD i 0+1)).length:=by rw[qX]; exact hic
    have ld1:=qbs.ld (i:=i) hic1;rw[Bl.getD_set_eq hic] at ld1;refine DJ AZ ?_;simp -implicitDefEqProofs only[vQ,↓reduceIte,jC,jP,enP,dE,tV,KJ,VJ,tY,VF,UT,UQ,aZ,f0,f2,hf1.as,qbs.ix hia,ld1,hf1.vs,CG hi,lw,AYS w U];refine BG ?_ ?_<;>intro hd
    .have hd:c.getD i 0+1<2^w:=BL hd
     rw[if_pos hd] at hS;refine Z ?_;exact⟨k2,_,hS.symm,hf1,qbs⟩
    .have hd:¬c.getD i 0+1<2^w:=fun q=>by rw[decide_eq_true q] at hd; cases hd
     rw[if_neg hd] at hS;have qb2:=qbs.st (i:=i) hic1 0;rw[List.set_set] at qb2;have qbz:isI (H1.set ab (qF 1 ((c.set i 0).map qencI))) ab (c.set i 0):=CQ qbs;have hf2:isF (H1.set ab (qF 1 ((c.set i 0).map qencI))) fb p lm l ab a.length false st:=by unfold isF; rw[zL (Ne.symm hne)]; exact hf1
     have hp0:(0:Int)<2^p.vars[i].width.toNat:=Int.pow_pos DK
     have setok:AOk p (c.set i 0):=by
      refine⟨by rw[qX]; exact okc.len,fun j hj hmj=>?_,fun j hj hmj=>?_⟩
      .by_cases e:j=i
       .subst e; exact absurd hmj hm
       .rw[Bl.getD_set_ne (fun q=>e q.symm)]; exact okc.st j hj hmj
      .by_cases e:j=i
       .subst e; rw[Bl.getD_set_eq hic]; exact⟨Int.le_refl 0,hp0⟩
       .rw[Bl.getD_set_ne (fun q=>e q.symm)]; exact okc.rn j hj hmj
     refine QZ @VF f0 f2 @hf1.as @qbs.ix hia qb2 zi ?_;exact⟨i,U,i,c.set i 0,rfl,U,setok,hS,k2.set A8 _,qbz,hf2,A7,A7⟩
  .have h1:¬1<=n:=fun q=>by rw[decide_eq_true q] at hc; cases hc
   obtain rfl:n=0:=U;have hS:none=O:=hS;refine Z ?_;exact⟨k1,hS.symm,A7,hf,c,by rw[okc.len,hal],qb⟩
 .rintro F H ⟨k1,ho,f0,hf,c,hcl,qb⟩
  refine EO @lG @gX f0 @hf.setOv ?_;refine⟨k1.set A8 _,?_⟩;rw[ho];exact⟨CQ hf,c,hcl,by unfold isI; rw[zL hne]; exact qb⟩
 .rintro F H ⟨k1,a',ho,hf,q⟩
  refine AO @AW7 ?_;refine⟨k1,?_⟩;rw[ho];exact⟨hf,q⟩
theorem AEU (hG:GOk G)(p:Pr)(hs:PrS p)(hv:JY p=0)(lm:SM)(l:List Ex)(hl:l.length<=1048576)(hw:∀e∈l,wt e<=1048576)(hk:∀e∈l,xpE p.vars e=0)(h:Hp):
  ACalls (En G) 182 [.agg (CX p),.sl lm 4 (l.map AY),.n 262144] h fun v H=>ext h H∧∃fb ab,h.length<=fb∧h.length<=ab∧fb≠ab∧v=.tup [.ptr fb 0 0,.n 0]∧isF H fb p lm l ab p.vars.length false 262144∧isI H ab (bH p):=by
 have P:=PV.of hv;have hvl:=hs.vars;refine J7 (H:=hint [40] []) (enM G) Tryz.func182 rfl (by kernel_rfl) (by kernel_rfl) (jB (by kernel_rfl)) ?_;show awp _ _ _ _ _ (NU _ [.tmp 6,.tmp 7] _);have ge:=AX h (qF 5 [CX p]);have hx:ext h (h++[qF 5 [CX p]]):=(ext.rfl' h).app _;have hge:h.length<(h++[qF 5 [CX p]]).length:=A8;have ldP:∀ {H:Hp},H[h.length]?=some (qF 5 [CX p])->BO jA H 27 (.ptr h.length 0 0)=some (.agg (CX p)):=fun q=>by rw[EH mP fR q (row:=CX p) rfl (by rw[NV]; exact jF 5)]; rfl
 refine AQ @AHT @SS ?_
 generalize h++[qF 5 [CX p]]=H0 at ge hx hge|-
 refine AO (ldP ge) ?_;refine(Bd.valid_prog G hG p hs H0).use ?_;have b0:(JY p != 0)=false:=by rw[hv]; rfl
 refine DI b0 (show decide ((262144:Int)<0)=false by decide) (show decide ((262144:Int)>262144)=false by decide) ?_;refine D9 0 (fun F H=>ext h H∧H[h.length]?=some (qF 5 [CX p])∧F 1=.sl lm 4 (l.map AY)∧F 2=.n 262144∧F 3=.ptr h.length 0 0) (fun F H=>False) ?_ ?_ (fun _ _ q=>q.elim)
 .refine BB (fun n F H=>∃i,n+i=l.length∧ext h H∧H[h.length]?=some (qF 5 [CX p])∧F 1=.sl lm 4 (l.map AY)∧F 2=.n 262144∧F 3=.ptr h.length 0 0∧F 24=.sl lm 4 (l.map AY)∧F 25=.n (l.length:Nat)∧F 26=.n (i:Nat)) l.length
   ⟨0,A8,hx,ge,AC,AC,AC,AC,AC,AC⟩ ?_
  clear hx ge hge;rintro n F H ⟨i,hi,hx,ge,f1,f2,f3,f24,f25,f26⟩;refine AQ f25 f26 ?_;refine BG ?_ ?_<;>intro hc
  .have hi':i<l.length:=BL hc
   have gE:=AX H (qF 4 [AY l[i]]);have ge:=AL (x:=qF 4 [AY l[i]]) ge;have hx:=hx.app [qF 4 [AY l[i]]];simp -implicitDefEqProofs only[vQ,zA,jY,zB,zY,CJ,↓reduceIte,jC,enP,PK,IX,jQ,f24,f26,CG hi',CY OZ I8 EF hi',al79,st79]
   generalize H++[qF 4 [AY l[i]]]=H1 at ge hx gE|-
   refine DI f3 (ldP ge) (IW gE) ?_;refine(known_prog G hG p hvl l[i] (hw _ (jH hi')) H1).use ?_;have b1:(xpE p.vars l[i]==0)=true:=by rw[hk _ (jH hi')]; rfl
   refine DI b1 f26 (CW i) ?_;exact⟨n-1,U,i+1,U,hx,ge,A7,A7,A7,A7,A7,A7⟩
  .refine Z ?_
   exact⟨hx,ge,A7,A7,A7⟩
 clear hx ge hge;rintro F H ⟨hx,ge,f1,f2,f3⟩;have hgl:=AB ge;have hxl:=hx.le;have bd:∀ab:Nat,IR jA 249 [(0,.agg (CX p)),(1,.sl lm 4 (l.map AY)),(2,.own ab 0 p.vars.length),(4,.n 262144)]=some (.agg (fdr p lm l ab p.vars.length false 262144)):=fun ab=>AZ
 have bx:∀(H:Hp) (ab:Nat),MP H (.agg (fdr p lm l ab p.vars.length false 262144))=some (.ptr H.length 0 0,H++[qF 9 [fdr p lm l ab p.vars.length false 262144]]):=fun H ab=>rfl
 refine Z ?_;refine DJ AZ ?_;refine aF @AX3 @V6 f1 f2 f3 (ldP ge) (nM ge) (mkI H p.vars.length hvl) bd bx ?_;have qa:isI (H++[qF 1 ((zD p.vars.length (0:Int)).map qencI)]) H.length (zD p.vars.length 0):=AX _ _;have qa:=AL (x:=qF 9 [fdr p lm l H.length p.vars.length false 262144]) qa;have ge:=AL (x:=qF 9 [fdr p lm l H.length p.vars.length false 262144]) (AL (x:=qF 1 ((zD p.vars.length (0:Int)).map qencI)) ge);have hx:=(hx.app [qF 1 ((zD p.vars.length (0:Int)).map qencI)]).app [qF 9 [fdr p lm l H.length p.vars.length false 262144]];have qf:isF (H++[qF 1 ((zD p.vars.length (0:Int)).map qencI)]++[qF 9 [fdr p lm l H.length p.vars.length false 262144]]) (H++[qF 1 ((zD p.vars.length (0:Int)).map qencI)]).length p lm l H.length p.vars.length false 262144:=AX _ _;have hne:(H++[qF 1 ((zD p.vars.length (0:Int)).map qencI)]).length=H.length+1:=A8
 generalize H++[qF 1 ((zD p.vars.length (0:Int)).map qencI)]++[qF 9 [fdr p lm l H.length p.vars.length false 262144]]=X at qa ge hx qf|-
 rw[hne] at qf|-
 generalize H.length=ob at qa qf hgl hxl|-
 refine AQ f3 (nM ge) ?_
 refine BB (fun n F H=>∃i,n+i=p.vars.length∧isI H ob ((p.vars.map Vr.value).take i++zD (p.vars.length-i) 0)∧isF H (ob+1) p lm l ob p.vars.length false 262144∧ext h H∧F 10=.ptr (ob+1) 0 0∧F 45=.sl p.vm 4 (p.vars.map encV)∧F 46=.n (p.vars.length:Nat)∧F 47=.n (i:Nat)) p.vars.length
  ⟨0,rfl,by rw[qB,List.nil_append]; exact qa,qf,hx,AC,AC,AC,AC⟩ ?_
 clear qa ge hx qf f1 f2 f3;rintro n F H ⟨i,hn,qa,qf,hx,f10,f45,f46,f47⟩;refine AQ f46 f47 ?_;refine DU (fun hi=>?_) (fun hc'=>?_)
 .have him:i<(p.vars.map Vr.value).length:=by rw[jL]; exact hi
  have qv:=AX H (qF 4 [encV p.vars[i]]);have qa:isI (H++[qF 4 [encV p.vars[i]]]) ob ((p.vars.map Vr.value).take i++zD (p.vars.length-i) 0):=AL qa;have qf:isF (H++[qF 4 [encV p.vars[i]]]) (ob+1) p lm l ob p.vars.length false 262144:=AL qf;have hx:=hx.app [qF 4 [encV p.vars[i]]];have hlt:((p.vars.map Vr.value).take i).length=i:=by rw[jU]; omega
  have hst:=qa.st (i:=i) MS p.vars[i].value
  have hset:((p.vars.map Vr.value).take i++zD (p.vars.length-i) 0).set i p.vars[i].value=(p.vars.map Vr.value).take (i+1)++zD (p.vars.length-(i+1)) 0:=by
   rw[List.set_append_right _ _ U,hlt,Nat.sub_self,show p.vars.length-i=(p.vars.length-(i+1))+1 by omega,List.replicate_succ,List.set_cons_zero,jW him,List.getElem_map,zC];rfl
  rw[hset] at hst;have l2:BO jA (H++[qF 4 [encV p.vars[i]]]) 3 (.ptr H.length 0 2)=some (.n p.vars[i].mode):=by rw[BH ag3 qv rfl]; rfl
  have l3:BO jA (H++[qF 4 [encV p.vars[i]]]) 3 (.ptr H.length 0 3)=some (.n p.vars[i].value):=by rw[BH ag3 qv rfl]; rfl
  simp -implicitDefEqProofs only[vQ,zA,jY,zB,zY,CJ,JO,↓reduceIte,jC,enP,dE,VI,IX,jQ,f45,f47,CG hi,ldV hi,Bd.al61,Bd.st61,l2];refine BG ?_ ?_<;>intro hm
  .refine DJ AZ ?_
   simp -implicitDefEqProofs only[vQ,zA,jY,zB,zY,PG,P8,CJ,↓reduceIte,jC,jP,enP,KJ,YF,VF,IX,jQ,UT,UQ,aZ,f10,f47,l3,qf.as,qa.ix hi,hst,CW i];exact⟨n-1,U,i+1,U,CQ qa,by unfold isF; rw[zL U]; exact qf,hx.set U _,A7,A7,A7,A7⟩
  .have hm:p.vars[i].mode≠0:=BL hm
   obtain⟨_,_,_,_,_,_,_,v0⟩:=U1 (P.vr _ (jH hi))
   have hsame:(p.vars.map Vr.value).take (i+1)++zD (p.vars.length-(i+1)) 0=(p.vars.map Vr.value).take i++zD (p.vars.length-i) 0:=by
    rw[jW him,List.getElem_map,v0 hm,zC,show p.vars.length-i=(p.vars.length-(i+1))+1 by omega,List.replicate_succ]; rfl
   refine AQ f47 (CW i) ?_;exact⟨n-1,U,i+1,U,by rw[hsame]; exact qa,qf,hx,A7,A7,A7,A7⟩
 .rw[jJ (by rw[jL]; omega),show p.vars.length-i=0 by omega,List.replicate_zero,List.append_nil] at qa
  refine AO f10 ?_;exact⟨hx,ob+1,ob,U,U,U,A7,qf,qa⟩
end
end Go.Proofs.YtiihpnicbekebaaGreatDoor.Bd.Cl
namespace Go.Proofs.YtiihpnicbekebaaGreatDoor.Cov
open Sm Bins Go.RowKit
variable {ns:List Nat} {l:List Int} (G:Nat->AV )
def ixV (ns:List Nat)(l:List Int):Int:=if JP ns l=true then tC ns l 0 else 0
theorem ASE (h:l.length≠ns.length):JP ns l=false:=by
 cases e:JP ns l
 .rfl
 .exact absurd (QN e).symm h
theorem AJ0 {k:Nat}(hk:k<l.length)(hn:k<ns.length):JP (ns.drop k) (l.drop k)=(decide (0<=l[k])&&decide (l[k]<(ns[k]:Int))&&JP (ns.drop (k+1)) (l.drop (k+1))):=by
 rw[zS hk,zS hn]; rfl
theorem AN1 {k:Nat}(hk:l.length<=k)(hn:ns.length<=k):JP (ns.drop k) (l.drop k)=true:=by
 rw[jR hk,jR hn]; rfl
theorem ACO (m:Mo)(z:Int)(hz:z<0∨(m.crs.length:Int)<=z)(h:Hp):PCall (En G) 145 [.agg (CZ m),.n z] h (.bool false):=by
 refine ACalls.pure0 rfl ?_;refine acT Tryz.func145 4 ?_;refine AO @bxM ?_;cases d0:decide (z<0)
 .have d1:decide (z≥(m.crs.length:Int))=true:=by rw[decide_eq_true_eq]; rw[decide_eq_false_iff_not] at d0; omega
  refine JZ gL @VT d1 ?_;exact⟨trivial,_,rfl⟩
 .refine Z ?_
  exact⟨trivial,_,rfl⟩
theorem kQ (m:Mo)(z:Int)(hz:z<0∨(m.crs.length:Int)<=z)(l:List Int)(s:SM)(h:Hp):PCall (En G) 71 [.agg (CZ m),.n z,.sl s 1 (l.map qencI)] h (.tup [.n 0,.bool false]):=by
 refine ACalls.pure 2 (R:=fun v H=>v=.tup [.n 0,.bool false]∧∃x,H=h++x) ?_ (fun v h' ⟨e,x⟩=>⟨x,by subst e; rfl⟩);refine acL Tryz.func71 [.tmp 6,.tmp 7] ?_;refine AQ @bxM (ldM (AX h (qF 2 [CZ m]))) ?_;refine(ACO G m z hz _).uu ?_;exact⟨trivial,_,rfl⟩
theorem kR (m:Mo)(i:Nat)(hi:i<m.crs.length)(hg:CrGood m m.crs[i])(l:List Int)(s:SM)(hn:l.length<=1048576)(h:Hp):PCall (En G) 71 [.agg (CZ m),.n (i:Int),.sl s 1 (l.map qencI)] h (.tup [.n (ixV (szs m m.crs[i].pts) l),.bool (JP (szs m m.crs[i].pts) l)]):=by
 refine ACalls.pure 2 (R:=fun v H=>v=.tup [.n (ixV (szs m m.crs[i].pts) l),.bool (JP (szs m m.crs[i].pts) l)]∧∃x,H=h++x) ?_ (fun v h' ⟨e,x⟩=>⟨x,by subst e; rfl⟩);have hx:∃x,h++[qF 2 [CZ m]]=h++x:=⟨_,rfl⟩;refine acL Tryz.func71 [.tmp 6,.tmp 7] ?_;refine AQ @bxM (ldM (AX h (qF 2 [CZ m]))) ?_;refine(V9 G m i hi hg _).use ?_;refine AO (ldM (AX h (qF 2 [CZ m]))) ?_;refine(RJ G m i hi hg _).use ?_;generalize szs m m.crs[i].pts=ns;rcases Classical.em (l.length=ns.length) with hlen|hlen
 case inr =>
  have hne:((l.length:Int) != (ns.length:Int))=true:=by simp; omega
  have hb:=ASE hlen;have hv:ixV ns l=0:=by unfold ixV; rw[hb]; rfl
  refine AO hne ?_;exact⟨by rw[hb,hv],hx⟩
 have hne:((l.length:Int) != (ns.length:Int))=false:=by rw[hlen]; simp
 refine AO hne ?_;refine BB (fun n F H=>∃k,n+k=l.length∧F 8=.sl .any 1 (ns.map J5)∧(∃z,F 9=.n z∧tC ns l 0=tC (ns.drop k) (l.drop k) z)∧F 24=.sl s 1 (l.map qencI)∧F 25=.n l.length∧F 26=.n (k:Nat)∧H=h++[qF 2 [CZ m]]∧JP ns l=JP (ns.drop k) (l.drop k)) l.length ⟨0,A8,AC,⟨0,rfl,rfl⟩,AC,AC,AC,rfl,rfl⟩ ?_;rintro n F H ⟨k,hk,f8,⟨z,f9,hz⟩,f24,f25,f26,rfl,hin⟩;refine AQ f25 f26 ?_;refine DU ?_ ?_<;>intro hk'
 .have hkn:k<ns.length:=U
  rw[AJ0 hk' hkn] at hin;rw[zS hk',zS hkn] at hz;cases d0:decide (l[k]<0)
  .have e0:decide (0<=l[k])=true:=by rw[decide_eq_true_eq]; rw[decide_eq_false_iff_not] at d0; omega
   cases d1:decide (l[k]≥(ns[k]:Int))
   .have e1:decide (l[k]<(ns[k]:Int))=true:=by rw[decide_eq_true_eq]; rw[decide_eq_false_iff_not] at d1; omega
    rw[e0,e1,wM,wM] at hin;simp -implicitDefEqProofs only[vQ,ED,CJ,cA,LM,↓reduceIte,Nat.reduceEqDiff,Option.getD_some,bNf,enP,KJ,f8,f9,f24,f26,CG hk',BP ag3 hk',encI0,d0,CG hkn,BP ag3 hkn,lI,d1,CW k];exact⟨n-1,U,k+1,U,trivial,⟨_,rfl,hz⟩,trivial,f25,rfl,trivial,hin⟩
   .have e1:decide (l[k]<(ns[k]:Int))=false:=by rw[decide_eq_false_iff_not]; rw[decide_eq_true_eq] at d1; omega
    rw[e1,Bool.and_false,Bool.false_and] at hin;have hv:ixV ns l=0:=by unfold ixV; rw[hin]; rfl
    refine aF f8 f9 f24 f26 hk' @encI0 d0 hkn @lI d1 ?_;exact⟨by rw[hin,hv],hx⟩
  .have e0:decide (0<=l[k])=false:=by rw[decide_eq_false_iff_not]; rw[decide_eq_true_eq] at d0; omega
   rw[e0,Bool.false_and,Bool.false_and] at hin;have hv:ixV ns l=0:=by unfold ixV; rw[hin]; rfl
   refine NZ f8 f9 f24 f26 hk' @encI0 d0 ?_;exact⟨by rw[hin,hv],hx⟩
 .rw[AN1 U U] at hin
  rw[jR (U:l.length<=k),AAE] at hz;have hv:ixV ns l=z:=by unfold ixV; rw[if_pos hin,hz]
  refine AO f9 ?_;exact⟨by rw[hin,hv],hx⟩
end Go.Proofs.YtiihpnicbekebaaGreatDoor.Cov
namespace Go.Proofs.YtiihpnicbekebaaGreatDoor.Ho
open Sm Bins Cov Go.RowKit
variable {H:Hp} {b i:Nat} {m:Mo} {p:Pt}
structure Hl where
 cross:Bool
 idx:Int
 bm:SM
 bins:List Int
def EZ (x:Hl):List AV:=[.bool x.cross,.n x.idx,.sl x.bm 1 (x.bins.map qencI)]
theorem AKG (x:Hl):(EZ x).length=3:=rfl
theorem bxH (h:Hp)(x:Hl):MP h (.agg (EZ x))=some (.ptr h.length 0 0,h++[qF 3 [EZ x]]):=YH rfl
theorem ldH {x:Hl}(hb:H[b]?=some (qF 3 [EZ x])):BO jA H 34 (.ptr b 0 0)=some (.agg (EZ x)):=by
 rw[EH AK5 fQ hb rfl (by rw[AKG]; exact Nat.le_refl 3)]; rfl
theorem AWL {x:Hl}(hb:H[b]?=some (qF 3 [EZ x])):BO jA H 4 (.ptr b 0 0)=some (.bool x.cross):=by rw[BH ag4 hb (row:=EZ x) rfl]; rfl
theorem ANK {x:Hl}(hb:H[b]?=some (qF 3 [EZ x])):BO jA H 3 (.ptr b 0 1)=some (.n x.idx):=by rw[BH ag3 hb (row:=EZ x) rfl]; rfl
theorem AR8 {x:Hl}(hb:H[b]?=some (qF 3 [EZ x])):BO jA H 32 (.ptr b 0 2)=some (.sl x.bm 1 (x.bins.map qencI)):=by rw[BH MO hb (row:=EZ x) rfl]; rfl
def AEH (m:Mo)(z:Int):Option Cr:=if 0<=z then m.crs[z.toNat]? else none
def AI8 (m:Mo)(z:Int):Option Pt:=if 0<=z then m.pts[z.toNat]? else none
def pS (p:Pt):List Int->Bool
 | [b]=>decide (0<=b)&&decide (b<(p.bins.length:Int))&&(kindOf p b.toNat==0)
 | _=>false
def crF (m:Mo)(x:Hl):Option Cr->Bool
 | some c=>JP (szs m c.pts) x.bins&&SB m c x.bins
 | none=>false
def ptF (x:Hl):Option Pt->Bool
 | some p=>pS p x.bins
 | none=>false
def gD (m:Mo)(x:Hl):Bool:=if x.cross=true then crF m x (AEH m x.idx) else ptF x (AI8 m x.idx)
def Q4 (m:Mo)(x:Hl):Bool:=(FT m==0)&&gD m x
theorem ABF {z:Int}(h:z<0∨(m.crs.length:Int)<=z):AEH m z=none:=by
 unfold AEH;split
 .exact zW U
 .rfl
theorem hQ (hi:i<m.crs.length):AEH m (i:Int)=some m.crs[i]:=by
 unfold AEH;rw[if_pos U,qN,jI hi]
theorem xU {z:Int}(h:z<0∨(m.pts.length:Int)<=z):AI8 m z=none:=by
 unfold AI8;split
 .exact zW U
 .rfl
theorem AF7 (hi:i<m.pts.length):AI8 m (i:Int)=some m.pts[i]:=by
 unfold AI8;rw[if_pos U,qN,jI hi]
theorem UJ (z:Int)(n:Nat):(z<0∨(n:Int)<=z)∨∃i:Nat,i<n∧z=(i:Int):=by
 rcases Classical.em (z<0∨(n:Int)<=z) with h|h
 .exact .inl h
 .exact .inr ⟨z.toNat,U,U⟩
structure Hb (h H:Hp) (m:Mo) (x:Hl) (hb:Nat):Prop where
 gm:H[h.length]?=some (qF 2 [CZ m])
 gh:H[hb]?=some (qF 3 [EZ x])
 hx:ext h H
theorem Hb.mk' (h:Hp)(m:Mo)(x:Hl):Hb h (h++[qF 2 [CZ m]]++[qF 3 [EZ x]]) m x (h++[qF 2 [CZ m]]).length :=
 ⟨AL (AX _ _),AX _ _,((ext.rfl' h).app _).app _⟩
theorem AAU {l:List Int}(h:l.length≠1):pS p l=false:=by
 match l,h with
 | [],_=>rfl
 | [b],h=>exact absurd rfl h
 | _::_::_,_=>rfl
theorem AJU {k:Nat}(hk:k<p.bins.length):kindOf p k=p.bins[k].kind:=by unfold kindOf; rw[jI hk]
theorem pR {b:Int}(h:b<0∨(p.bins.length:Int)<=b):pS p [b]=false:=by
 show(decide (0<=b)&&decide (b<(p.bins.length:Int))&&(kindOf p b.toNat==0))=false;rcases h with h|h
 .rw[show decide (0<=b)=false by rw[decide_eq_false_iff_not]; omega]; rfl
 .rw[show decide (b<(p.bins.length:Int))=false by rw[decide_eq_false_iff_not]; omega,Bool.and_false]; rfl
theorem AAV {k:Nat}(hk:k<p.bins.length):pS p [(k:Int)]=(p.bins[k].kind==0):=by
 show(decide (0<=(k:Int))&&decide ((k:Int)<(p.bins.length:Int))&&(kindOf p (k:Int).toNat==0))=_;rw[qN,AJU hk,show decide (0<=(k:Int))=true by rw[decide_eq_true_eq]; omega,show decide ((k:Int)<(p.bins.length:Int))=true by rw[decide_eq_true_eq]; omega]; rfl
theorem ltz_false (i:Nat):decide ((i:Int)<0)=false:=by rw[decide_eq_false_iff_not]; omega
theorem pM {n:Nat}(h:i<n):decide ((i:Int)≥(n:Int))=false:=by rw[decide_eq_false_iff_not]; omega
theorem AM9 {n:Nat}(h:i<n):decide ((i:Int)<(n:Int))=true:=by rw[decide_eq_true_eq]; omega
theorem AAI (i:Nat):decide ((i:Int)≥0)=true:=by rw[decide_eq_true_eq]; omega
theorem iN {l:List Int}(h:l.length=1):∃b,l=[b]:=by
 match l,h with
 | [b],_=>exact⟨b,rfl⟩
section
variable (G:Nat->AV)
theorem fits_prog (m:Mo)(hg:Cov.Good m)(x:Hl)(hn:x.bins.length<=1048576)(h:Hp):PCall (En G) 91 [.agg (CZ m),.agg (EZ x)] h (.bool (gD m x)):=by
 refine ACalls.pure0 rfl ?_;refine acT Tryz.func91 4 ?_;have t:=Hb.mk' h m x;refine AQ @bxM @bxH ?_
 generalize h++[qF 2 [CZ m]]++[qF 3 [EZ x]]=H at t|-
 generalize (h++[qF 2 [CZ m]]).length=hb at t|-
 refine AO (AWL t.gh) ?_;cases hc:x.cross
 case true =>
  have hf:gD m x=crF m x (AEH m x.idx):=by unfold gD; rw[if_pos hc]
  refine DI (ldM t.gm) (ANK t.gh) (AR8 t.gh) ?_;rcases UJ x.idx m.crs.length with hz|⟨i,hi,hz⟩
  .rw[ABF hz] at hf; change gD m x=false at hf
   refine(kQ G m x.idx hz x.bins x.bm H).uu ?_;exact⟨by rw[hf],t.hx⟩
  .rw[hz,hQ hi] at hf
   change gD m x=(JP (szs m m.crs[i].pts) x.bins&&SB m m.crs[i] x.bins) at hf;have hcg:=hg.crs _ (List.getElem_mem hi);rw[hz];refine(kR G m i hi hcg x.bins x.bm hn H).use ?_;cases hin:JP (szs m m.crs[i].pts) x.bins
   .refine Z ?_
    exact⟨by rw[hf,hin,Bool.false_and],t.hx⟩
   .refine DI (ldM t.gm) (ANK t.gh) (AR8 t.gh) ?_
    rw[hz];refine(Y4 G m i hi hcg x.bins x.bm hin H).uu ?_;exact⟨by rw[hf,hin,wM,Bool.not_not],t.hx⟩
 have hf:gD m x=ptF x (AI8 m x.idx):=by unfold gD; rw[if_neg (by rw[hc]; decide)]
 have l1:=ANK t.gh;have l2:=AR8 t.gh;rcases UJ x.idx m.pts.length with hz|⟨i,hi,hz⟩
 .rw[xU hz] at hf; change gD m x=false at hf
  cases d0:decide (x.idx<0)
  .have d1:decide (x.idx≥(m.pts.length:Int))=true:=by rw[decide_eq_true_eq]; rw[decide_eq_false_iff_not] at d0; omega
   refine EO l1 d0 (ZP t.gm) d1 ?_;exact⟨by rw[hf],t.hx⟩
  .refine AQ l1 d0 ?_
   exact⟨by rw[hf],t.hx⟩
 rw[hz,AF7 hi] at hf;change gD m x=pS m.pts[i] x.bins at hf;rw[hz] at l1;rcases Classical.em (x.bins.length=1) with hl|hl
 case inr =>
  have hne:((x.bins.length:Int) != 1)=true:=by simp; omega
  refine MR l1 l2 @ltz_false (ZP t.gm) (pM hi) hne ?_;exact⟨by rw[hf,AAU hl],t.hx⟩
 obtain⟨b,hb1⟩:=iN hl;rw[hb1] at l2 hf;have h01:0<([b]:List Int).length:=A8;have i0:JM 1 H (.sl x.bm 1 [qencI b]) (.n 0)=some (.fptr 1 [qencI b] 0 0):=CG (k:=1) h01;have hne:(((([qencI b]:List (List AV)).length:Nat):Int) != 1)=false:=rfl;have lb:BO jA H 3 (.fptr 1 [qencI b] 0 0)=some (.n b):=(BP ag3 h01).trans rfl;simp -implicitDefEqProofs only[vQ,ED,CJ,LM,↓reduceIte,jC,Nat.add_zero,enP,QM,ANE,KQ,KJ,VY,dM,dL,JV,l1,l2,ltz_false,ZP t.gm,jL,pM hi,hne,CG hi,BP OB hi,NI,i0,lb];rcases UJ b m.pts[i].bins.length with hb2|⟨k,hk,rfl⟩
 .rw[pR hb2] at hf
  cases d0:decide (b≥0)
  .refine AO d0 ?_
   exact⟨by rw[hf],t.hx⟩
  .have d1:decide (b<(m.pts[i].bins.length:Int))=false:=by rw[decide_eq_false_iff_not]; rw[decide_eq_true_eq] at d0; omega
   refine JL d0 l2 i0 lb d1 ?_;exact⟨by rw[hf],t.hx⟩
 .rw[AAV hk] at hf
  simp -implicitDefEqProofs only[vQ,ED,RD,CJ,JO,↓reduceIte,jC,enP,KJ,dL,WU,ZN,VE,AAI,l2,i0,lb,jL,AM9 hk,CG hk,BP ag3 hk,SL];exact⟨by rw[hf],t.hx⟩
end
section
variable (G:Nat->AV)
theorem valid_prog (hG:GOk G)(m:Mo)(hm:MoOk m)(x:Hl)(hn:x.bins.length<=1048576)(h:Hp):PCall (En G) 42 [.agg (CZ m),.agg (EZ x)] h (.bool (Q4 m x)):=by
 refine ACalls.pure0 rfl ?_;refine acT Tryz.func42 4 ?_;have t:=Hb.mk' h m x;refine AQ @bxM @bxH ?_
 generalize h++[qF 2 [CZ m]]++[qF 3 [EZ x]]=H at t|-
 generalize (h++[qF 2 [CZ m]]).length=hb at t|-
 refine AO (ldM t.gm) ?_;refine(PS G hG m hm H).use ?_;unfold Q4;cases h0:(FT m==0)
 .refine AO h0 ?_
  exact⟨by rw[Bool.false_and],t.hx⟩
 .have hg:Cov.Good m:=RI (BL h0)
  refine DI h0 (ldM t.gm) (ldH t.gh) ?_;refine(fits_prog G m hg x hn H).uu ?_;exact⟨by rw[wM],t.hx⟩
end
theorem oD {x:Hl}(hv:Q4 m x=true)(hc:x.cross=true):∃i,∃hi:i<m.crs.length,x.idx=(i:Int)∧JP (szs m m.crs[i].pts) x.bins=true∧SB m m.crs[i] x.bins=true∧Cov.Good m:=by
 unfold Q4 at hv;rw[jT] at hv;obtain⟨h0,hf⟩:=hv;unfold gD at hf;rw[if_pos hc] at hf;rcases UJ x.idx m.crs.length with hz|⟨i,hi,hz⟩
 .rw[ABF hz] at hf; exact Bool.noConfusion (show false=true from hf)
 .rw[hz,hQ hi] at hf
  change (JP (szs m m.crs[i].pts) x.bins&&SB m m.crs[i] x.bins)=true at hf;rw[jT] at hf;exact⟨i,hi,hz,hf.1,hf.2,RI (BL h0)⟩
theorem oC {x:Hl}(hv:Q4 m x=true)(hc:x.cross=false):∃i,∃hi:i<m.pts.length,∃k,∃hk:k<m.pts[i].bins.length,x.idx=(i:Int)∧x.bins=[(k:Int)]∧m.pts[i].bins[k].kind=0∧Cov.Good m:=by
 unfold Q4 at hv;rw[jT] at hv;obtain⟨h0,hf⟩:=hv;unfold gD at hf;rw[if_neg (by rw[hc]; decide)] at hf;rcases UJ x.idx m.pts.length with hz|⟨i,hi,hz⟩
 .rw[xU hz] at hf; exact Bool.noConfusion (show false=true from hf)
 .rw[hz,AF7 hi] at hf
  change pS m.pts[i] x.bins=true at hf;rcases Classical.em (x.bins.length=1) with hl|hl
  .obtain⟨b,hb⟩:=iN hl
   rw[hb] at hf;rcases UJ b m.pts[i].bins.length with hb2|⟨k,hk,rfl⟩
   .rw[pR hb2] at hf; exact Bool.noConfusion (show false=true from hf)
   .rw[AAV hk] at hf
    exact⟨i,hi,k,hk,hz,hb,BL hf,RI (BL h0)⟩
  .rw[AAU hl] at hf; exact Bool.noConfusion (show false=true from hf)
end Go.Proofs.YtiihpnicbekebaaGreatDoor.Ho
namespace Go.Proofs.YtiihpnicbekebaaGreatDoor.Ho
open Sm Bins Cov Xe Go.RowKit
structure H3 (h H:Hp) (m:Mo) (x:Hl) (c:Cvr) (hb cb:Nat):Prop where
 gm:H[h.length]?=some (qF 2 [CZ m])
 gh:H[hb]?=some (qF 3 [EZ x])
 gc:H[cb]?=some (qF 4 [encV c])
 hx:ext h H
end Go.Proofs.YtiihpnicbekebaaGreatDoor.Ho
namespace Go.Proofs.YtiihpnicbekebaaGreatDoor.Ho
open Sm Bins Cov Go.RowKit
variable {H:Hp} {b:Nat}
theorem AZI {p:Pt}(hb:H[b]?=some (qF 6 [FP p])):BO jA H 80 (.ptr b 0 5)=some (.sl p.bm 4 (p.bins.map H7)):=by
 rw[BH OB hb (row:=FP p) rfl,NI]
theorem AUR {p:Pt}(hb:H[b]?=some (qF 6 [FP p])):BO jA H 79 (.ptr b 0 1)=some (.agg (AY p.ex)):=by
 rw[EH OZ I8 hb rfl (by rw[IC]; exact jB rfl),uG]
theorem X4 {P:Program}{t e:TypeId}{α:Type}{k bs:Nat}{f:α->List AV}{h:Hp}{xs ys:List α}{v:AV}(s:SM)(ho:outG k f h xs v H)(hu:P.underlying t=some (.slice e))(hs:szO P e=some k)(hz:SY P e=some k)(hb:KR P e=some bs)(hbs:bs<=4194304)(hl:xs.length+ys.length<=8388608)(he:ext h H):
  ∃v' H',EP P true H t t v (.sl s k (ys.map f))=some (v',H')∧outG k f h (xs++ys) v' H'∧(∀b x,H[b]?=some x->¬isB v b->H'[b]?=some x)∧ext h H'∧H.length<=H'.length∧(∀b,isB v' b->isB v b∨b=H.length):=by
 cases ys with
 | nil =>
   refine⟨v,H,?_,by rw[jO]; exact ho,fun _ _ hx _=>hx,he,jF _,fun b hb=>.inl hb⟩;have hcs:JF H (.sl s k [])=some (k,[]):=IE H s k [];rcases ho with⟨rfl,rfl⟩|⟨hne,o,h2,rfl,h3⟩
   .simp [EP,hu,hs,RX,hcs,bump]
   .have hc:JF H (.own o 0 xs.length)=some (k,xs.map f):=by rw[J6 h3 A8,zM,jJ A8]
    simp [EP,hu,hs,RX,hc,hcs,bump]
 | cons y ys =>
   have h1:(y::ys).map f≠[]:=A8;rcases ho with⟨rfl,rfl⟩|⟨hne,o,h2,rfl,h3⟩
   .refine⟨_,_,VL hu hs hz hb (IE H s k ((y::ys).map f)) h1 (I5 (by simp at hl|-; omega) hbs),.inr ⟨A8,H.length,he.le,A8,A8⟩,fun b x hb _=>IK hb,he.app _,A8,fun b hb=>.inr hb.symm⟩
   .have hc:JF H (.own o 0 xs.length)=some (k,xs.map f):=by rw[J6 h3 A8,zM,jJ A8]
    refine⟨_,_,TK hu hs hz hb hc (IE H s k ((y::ys).map f)) h1 (I5 (by simp at hl|-; omega) hbs),.inr ⟨A8,H.length,he.le,A8,A8⟩,fun b x hb hn=>?_,(he.set h2 _).app _,A8,fun b hb=>.inr hb.symm⟩;have hn':¬o=b:=hn;refine IK ?_;rw[List.getElem?_set,if_neg hn']; exact hb
def NM:List Bin->List Rng
 | []=>[]
 | b::r=>(if b.kind≠0 then b.ranges.l else [])++NM r
theorem AKY {l:List Bin}{k:Nat}(hk:k<l.length):NM (l.take (k+1))=NM (l.take k)++(if l[k].kind≠0 then l[k].ranges.l else []):=by
 induction l generalizing k with
 | nil=>simp at hk
 | cons b r ih =>
   cases k with
   | zero=>simp [NM]
   | succ k =>
     have:=ih (k:=k) (BL hk);simp only[List.take_succ_cons,List.getElem_cons_succ];show _++NM (r.take (k+1))=(_++NM (r.take k))++_;rw[this,List.append_assoc]
theorem APT {l:List Bin}(k:Nat):(NM (l.take k)).length<=(NM l).length:=by
 induction l generalizing k with
 | nil=>simp
 | cons b r ih =>
   cases k with
   | zero=>simp [NM]
   | succ k =>
     have:=ih k;show(_++NM (r.take k)).length<=(_++NM r).length;rw[jS,jS]; omega
theorem AZV:Frz encR:=fun _ _ _ _=>⟨rfl,rfl⟩
theorem ANL {x:Bin}(hb:H[b]?=some (qF 4 [H7 x])):BO jA H 84 (.ptr b 0 2)=some (.sl x.ranges.m 2 (x.ranges.l.map encR)):=by
 rw[BH QX hb (row:=H7 x) rfl,bT]
theorem AZK {x:Bin}(hb:H[b]?=some (qF 4 [H7 x])):BO jA H 3 (.ptr b 0 1)=some (.n x.kind):=by
 rw[BH ag3 hb (row:=H7 x) rfl,SL]
theorem A0V (h:Hp)(p:Pt):MP h (.agg (FP p))=some (.ptr h.length 0 0,h++[qF 6 [FP p]]):=by
 rw[YH (dS p),IC]
section
variable (G:Nat->AV)
theorem APS (p:Pt)(hp:p.bins.length<=1048576)(hl:(NM p.bins).length<=1048576)(h:Hp):PCall (En G) 169 [.agg (FP p)] h (.sl (Cov.nm (NM p.bins)) 2 ((NM p.bins).map encR)):=by
 refine KT AZV ?_;refine acT Tryz.func169 2 ?_;have gp:=AX h (qF 6 [FP p]);have hx:ext h (h++[qF 6 [FP p]]):=(ext.rfl' h).app _;refine AO @A0V ?_
 generalize h++[qF 6 [FP p]]=H0 at gp hx|-
 refine AO (AZI gp) ?_
 refine BB (fun n F H=>∃k u,n+k=p.bins.length∧F 3=u∧F 7=.sl p.bm 4 (p.bins.map H7)∧F 8=.n (p.bins.length:Nat)∧F 9=.n (k:Nat)∧ext H0 H∧outG 2 encR H0 (NM (p.bins.take k)) u H) p.bins.length
  ⟨0,.sl .nil 0 [],A8,AC,AC,AC,AC,ext.rfl' _,outG.nil _ _ _ _⟩ ?_
 rintro n F H ⟨k,u,hk,f3,f7,f8,f9,he,ho⟩;refine AQ f8 f9 ?_;refine DU ?_ ?_<;>intro hk'
 .have hst:=AKY hk'
  have hbl:=APT (l:=p.bins) (k+1);have gb:=AX H (qF 4 [H7 p.bins[k]]);have he1:=he.app [qF 4 [H7 p.bins[k]]];have ho1:=ho.app [qF 4 [H7 p.bins[k]]];simp -implicitDefEqProofs only[vQ,CJ,↓reduceIte,jC,Nat.zero_add,enP,WU,VE,jQ,f7,f9,CG hk',CY gJ ZB KE hk',al79,st79 _ _ [.str ⟨#[]⟩,.n 0,.sl .nil 0 [],.sl .nil 0 []] rfl]
  generalize H++[qF 4 [H7 p.bins[k]]]=H1 at gb he1 ho1|-
  simp -implicitDefEqProofs only[vQ,CJ,↓reduceIte,enP,AZK gb,bne];cases hz:(p.bins[k].kind==0)
  .have hz':p.bins[k].kind≠0:=BL hz
   rw[if_pos hz'] at hst;rw[hst,jS] at hbl;obtain⟨v',H2,ha,ho2,_,he2,_,_⟩:=X4 p.bins[k].ranges.m ho1 ZA MJ ALD APC U (ys:=p.bins[k].ranges.l) U he1;rw[<-hst] at ho2;refine JL f3 (ANL gb) ha f9 (CW k) ?_;exact⟨n-1,U,k+1,v',U,A7,A7,A7,A7,he2,ho2⟩
  .have hz':¬p.bins[k].kind≠0:=BL hz
   rw[if_neg hz',jO] at hst;rw[<-hst] at ho1;refine AQ f9 (CW k) ?_;exact⟨n-1,U,k+1,u,U,A7,A7,A7,A7,he1,ho1⟩
 .rw[jJ U] at ho
  refine AO f3 ?_;exact⟨hx.trans he,ho.base hx.le⟩
end
def cE (n:Int):Ex:=.mk 1 n ⟨#[]⟩ .nil []
def lY (op n:Int):List AV:=[.n op,.n n,.str ⟨#[]⟩,.sl .nil 0 []]
theorem AHS (n:Int):IR jA 79 [(0,.n 1),(1,.n n)]=some (.agg (lY 1 n)):=AZ
theorem ATO (n:Int):CvRow (lY 1 n) (AY (cE n)):=by
 rw[EY];exact CvRow.cons rfl (Cv.refl _) (CvRow.cons rfl (Cv.refl _) (CvRow.cons rfl (Cv.refl _) (CvRow.cons rfl (Cv.nil 0 4) CvRow.nil)))
def cpE:Ex->Ex
 | .mk op n name _ args=>.mk op n name (match args with|[]=>.nil|_=>.any) (cpEs args)
 where cpEs:List Ex->List Ex
 | []=>[]
 | e::es=>cpE e::cpEs es
theorem ABG:∀l:List Ex,cpE.cpEs l=l.map cpE
 | []=>rfl
 | e::es=>by show cpE e::cpE.cpEs es=_; rw[ABG es]; rfl
theorem dU (e:Ex):cpE e=.mk e.op e.n e.name (Cov.nm (e.args.map cpE)) (e.args.map cpE):=by
 cases e with
 | mk op n name m args =>
   show Ex.mk op n name _ (cpE.cpEs args)=Ex.mk op n name _ (args.map cpE);rw[ABG];cases args<;>rfl
theorem frzEx:Frz AY:=fun n h d x=>by
 rw[EY]; exact⟨rfl,rfl⟩
def cpW (e:Ex):List AV:=[.n e.op,.n e.n,.str e.name,fzG 4 AY (e.args.map cpE)]
theorem AO9 (e:Ex):CvR (.agg (cpW e)) (.agg (AY (cpE e))):=by
 rw[EY,dU];exact CvR.agg (CvRL.cons (CvR.refl _) (CvRL.cons (CvR.refl _) (CvRL.cons (CvR.refl _) (CvRL.cons ZT CvRL.nil))))
theorem lX (n:Int):CvR (.agg (lY 1 n)) (.agg (AY (cE n))):=by
 rw[EY];exact CvR.agg (CvRL.cons (CvR.refl _) (CvRL.cons (CvR.refl _) (CvRL.cons (CvR.refl _) (CvRL.cons (CvR.sl (Cv.nil 0 4)) CvRL.nil))))
theorem VQ {row cs:List AV}(hb:H[b]?=some (qF 4 [row]))(hr:row.length=4)(hc:cs.length=4)(hl:cs.all AV.leaf=true):DX jA H 79 (.ptr b 0 0) (.agg cs)=some (H.set b (qF 4 [cs])):=by
 rw[IY (cs:=cs) (PI hl) (by rw[hc]; exact I8) hb (by rw[hr,hc]; exact jF 4)];have:splice row 0 cs=cs:=by unfold splice; rw[List.take_zero,List.drop_eq_nil_of_le (by rw[hr,hc]; exact jF 4)]; simp
 rw[this]
theorem KY {h:Hp}{row:List AV}(hb:h[b]?=some (qF 4 [row]))(hr:row.length=4):BO jA h 79 (.ptr b 0 0)=some (.agg row):=by
 rw[EH OZ I8 hb rfl (by rw[hr]; exact jF 4),zM,<-hr,List.take_length]
theorem WO (G:Nat->AV)(n:Int)(h:Hp):PCall (En G) 247 [.n n] h (.agg (AY (cE n))):=by
 refine PCall.res ?_ (lX n);refine UC 3 (fun n H=>rfl) ?_;refine acL Tryz.func247 [.cell 2 79] ?_;have g2:=AX h (qF 4 [[.n 0,.n 0,.str ⟨#[]⟩,.sl .nil 0 []]]);have hx:ext h (h++[qF 4 [[.n 0,.n 0,.str ⟨#[]⟩,.sl .nil 0 []]]]):=(ext.rfl' h).app _;refine AO QW ?_
 generalize h++[qF 4 [[.n 0,.n 0,.str ⟨#[]⟩,.sl .nil 0 []]]]=H at g2 hx|-
 refine AQ @AHS (VQ (cs:=lY 1 n) g2 rfl rfl rfl) ?_;rw[JA (b:=h.length) AC (KY (CQ g2) rfl)];exact⟨rfl,hx.set (jF _) _⟩
theorem ABJ (G:Nat->AV):∀(w:Nat) (e:Ex) (h:Hp),wt e<=w->wt e<=1048576->PCall (En G) 246 [.agg (AY e)] h (.agg (AY (cpE e))):=by
 intro w
 induction w with
 | zero=>intro e h h1 _; have:=MH e; omega
 | succ w ih =>
   intro e h h1 h2;have hlen:=UW e.args;have hwt:=MH e;refine PCall.res (r:=.agg (cpW e)) ?_ (AO9 e);refine ACalls.pure (R:=fun v H=>ext h H∧FI h.length H 4 v=.agg (cpW e)) 4 ?_ (fun v H ⟨a,b⟩=>⟨a,b⟩);refine acL Tryz.func246 [.cell 2 79] ?_;have ge:=AL (x:=qF 4 [[.n 0,.n 0,.str ⟨#[]⟩,.sl .nil 0 []]]) (AX h (qF 4 [AY e]));have g2:=AX (h++[qF 4 [AY e]]) (qF 4 [[.n 0,.n 0,.str ⟨#[]⟩,.sl .nil 0 []]]);have hx:ext h (h++[qF 4 [AY e]]++[qF 4 [[.n 0,.n 0,.str ⟨#[]⟩,.sl .nil 0 []]]]):=((ext.rfl' h).app _).app _;have hb2:h.length<(h++[qF 4 [AY e]]).length:=A8;refine AQ @bxE QW ?_
   generalize h++[qF 4 [AY e]]++[qF 4 [[.n 0,.n 0,.str ⟨#[]⟩,.sl .nil 0 []]]]=H0 at ge g2 hx|-
   generalize (h++[qF 4 [AY e]]).length=b2 at g2 hb2|-
   have l2:=AB g2;refine AO (Rk.ldE' ge) ?_
   refine BB (fun n F H=>∃k u,n+k=e.args.length∧F 1=.ptr h.length 0 0∧F 2=.ptr b2 0 0∧F 3=u∧F 7=.sl e.m 4 (e.args.map AY)∧F 8=.n (e.args.length:Nat)∧F 9=.n (k:Nat)∧ext H0 H∧outG 4 AY H0 ((e.args.take k).map cpE) u H) e.args.length
    ⟨0,.sl .nil 0 [],A8,AC,AC,AC,AC,AC,AC,ext.rfl' _,outG.nil _ _ _ _⟩ ?_
   rintro n F H ⟨k,u,hk,f1,f2,f3,f7,f8,f9,he,ho⟩;refine AQ f8 f9 ?_;refine DU ?_ ?_<;>intro hk'
   .have hlt:=Rk.wt_arg hk'
    have he1:=he.app [qF 4 [AY e.args[k]]];have ho1:=ho.app [qF 4 [AY e.args[k]]];have gT:=ldE H e.args[k];simp -implicitDefEqProofs only[vQ,CJ,List.map_cons,List.map_nil,↓reduceIte,jC,enP,PK,jQ,f7,f9,CG hk',CY OZ I8 EF hk',QW,nD _ _ [.n 0,.n 0,.str ⟨#[]⟩,.sl .nil 0 []] rfl,gT]
    generalize H++[qF 4 [AY e.args[k]]]=H1 at he1 ho1|-
    refine(ih e.args[k] H1 U U).use ?_
    have hbs:C9 jA false H1 23 1 [(0,.agg (AY (cpE e.args[k])))]=some (.sl .full 4 [AY (cpE e.args[k])],H1):=by
     rw[EY]; exact(AZ:C9 jA false H1 23 1 [(0,.agg [.n (cpE e.args[k]).op,.n (cpE e.args[k]).n,.str (cpE e.args[k]).name,.sl (cpE e.args[k]).m 4 ((cpE e.args[k]).args.map AY)])]=_)
    obtain⟨v',H2,ha,ho2,_,he2,_,_⟩:=ho1.append U5 I8 cN bZ U MS he1 (cpE e.args[k]);have e3:(e.args.take k).map cpE++[cpE e.args[k]]=(e.args.take (k+1)).map cpE:=by rw[List.take_succ_eq_append_getElem hk',List.map_append]; rfl
    rw[e3] at ho2;refine JL f3 hbs ha f9 (CW k) ?_;exact⟨n-1,U,k+1,v',U,A7,A7,A7,A7,A7,A7,he2,ho2⟩
   .rw[jJ U] at ho
    have ge1:=EJ he ge;have g21:=EJ he g2;have hle:=he.le;have hlf:=ho.leaf;have h0l:h.length<H0.length:=U
    have hst:DX jA H 23 (.ptr h.length 0 3) u=some (H.set h.length (qF 4 [[.n e.op,.n e.n,.str e.name,u]])):=by
     rw[EY] at ge1;rcases ho with⟨_,rfl⟩|⟨_,o,_,rfl,_⟩
     .rw[IY (cs:=[.sl .nil 0 []]) rfl (AZ:szO jA 23=some 1) ge1 A8]; rfl
     .rw[IY (cs:=[.own o 0 _]) rfl (AZ:szO jA 23=some 1) ge1 A8]; rfl
    have g1':(H.set h.length (qF 4 [[.n e.op,.n e.n,.str e.name,u]]))[h.length]?=some (qF 4 [[.n e.op,.n e.n,.str e.name,u]]):=CQ ge1;have g2':(H.set h.length (qF 4 [[.n e.op,.n e.n,.str e.name,u]]))[b2]?=_:=DC g21 U;have ho3:outG 4 AY H0 (e.args.map cpE) u (H.set h.length (qF 4 [[.n e.op,.n e.n,.str e.name,u]])):=ho.setB h0l _;have hx3:ext h (H.set h.length (qF 4 [[.n e.op,.n e.n,.str e.name,u]])):=(hx.trans he).set (jF _) _;refine EO f1 f2 f3 hst ?_
    generalize H.set h.length (qF 4 [[.n e.op,.n e.n,.str e.name,u]])=H3 at g1' g2' ho3 hx3|-
    have hlf4:([.n e.op,.n e.n,.str e.name,u]:List AV).all AV.leaf=true:=by simp [hlf]; exact⟨rfl,rfl,rfl⟩
    refine EO f1 f2 (KY g1' rfl) (VQ g2' rfl rfl hlf4) ?_;rw[JA (b:=b2) (DW f2) (KY (CQ g2') rfl)];refine⟨hx3.set U _,?_⟩;have ho4:=ho3.setB (b:=b2) l2 (qF 4 [[.n e.op,.n e.n,.str e.name,u]]);have hz:=NG frzEx ho4 h.length 1 (by have:=hx.le; omega);show AV.agg [.n e.op,.n e.n,.str e.name,FI h.length _ 3 u]=.agg (cpW e);rw[hz]; rfl
abbrev It:=Sum Ex Int
def AZS:It->Ex
 | .inl e=>e
 | .inr n=>cE n
def ASC (l:List Rng):List It:=l.flatMap fun r=>[.inr r.lo,.inr r.hi]
def AUX (e:Ex)(l:List Rng):List It:=.inl e::ASC l
def JI (e:Ex)(l:List Rng):Ex:=.mk 23 0 ⟨#[]⟩ .any ((AUX e l).map AZS)
theorem AJX (a:Rng)(l:List Rng):ASC (a::l)=.inr a.lo :: .inr a.hi::ASC l:=rfl
theorem ATP (h:Hp)(a b:Int)(s:ByteArray)(m:SM)(xs:List (List AV)):C9 jA true h 23 1 [(0,.agg [.n a,.n b,.str s,.sl m 4 xs])]=some (.own h.length 0 1,h++[qF 4 [[.n a,.n b,.str s,.sl m 4 xs]]]):=AZ
theorem A0Z (h:Hp)(e:Ex):C9 jA true h 23 1 [(0,.agg (AY e))]=some (.own h.length 0 1,h++[qF 4 [AY e]]):=by
 rw[EY]; exact ATP h _ _ _ _ _
theorem AVE (o n:Nat):IR jA 79 [(0,.n 23),(3,.own o 0 n)]=some (.agg [.n 23,.n 0,.str ⟨#[]⟩,.own o 0 n]):=AZ
end Go.Proofs.YtiihpnicbekebaaGreatDoor.Ho
