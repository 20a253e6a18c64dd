/- Part 7 of the proof (M13, M14, N1, N2, N4, N5, N7, N8, N9, N10, N11, N12, N13); no condition. -/
import Derived.Test.YtocilianjfhifaaGreatDoorYD6
set_option linter.unusedVariables false
set_option linter.unusedSimpArgs false
set_option maxRecDepth 8000
namespace Go.Proofs.YtocilianjfhifaaGreatDoor.Cov
open Sm Bins Go.RowKit
open Bool renaming not_eq_true→qO,not_false→jC,not_true→jR,and_eq_true→jV,false_eq_true→jY
open List renaming any_eq_false→qZ,length_map→jI,getElem_mem→jQ,append_assoc→zA,map_cons→jD,map_nil→jE,append_nil→jF,drop_eq_nil_of_le→jW,getElem?_eq_getElem→jS,nil_append→zU,findIdx?_eq_some_iff_getElem→qV,take_succ_eq_append_getElem→zL,take_of_length_le→jX,findIdx?_eq_none_iff→qW,drop_eq_getElem_cons→zK,take_zero→zQ,getElem?_cons_zero→zB,getElem?_cons_succ→zG,length_append→zW,mem_of_getElem?→zZ,mem_append→qC,length_cons→qU
open Nat renaming le_of_ble_eq_true→jH,reduceEqDiff→jA,zero_add→jG,reduceAdd→jM,add_zero→jK,le_refl→jL,le_trans→zY
open Option renaming getD_some→jB,getD_none→jP
def OB (G:Nat->AV):Prop:=∀(ns:List Nat) (s:SM) (K:Nat) (h:Hp),0<ns.length->ns.length<=4->(∀n∈ns,1<=n∧n<=64)->K<=1048576 ->
 PCall (En G) 168 [.sl s 1 (ns.map II),.int .i64 (K:Int)] h (.sl .any 1 ((NG ns K).map encI))
structure CrGood (m:Mo) (c:Cr):Prop where
 here:Here m c.pts
 two:2<=c.pts.length
 four:c.pts.length<=4
 prod:GK (szs m c.pts)<=256
 num:c.excl.length<=256
 excl:∀x∈c.excl,MS (szs m c.pts) x.l=true
theorem AR2 {m:Mo}{c:Cr}(h:IJ m c=0):CrGood m c:=by
 unfold IJ at h;split at h
 .cases h
 .split at h
  .cases h
  .split at h
   .cases h
   .split at h
    .cases h
    .split at h
     .cases h
     .rename_i h1 h2 h3 h4 h5
      have h3':WG m.pts.length none c.pts=true:=by simpa using h3
      refine⟨XL h3',by omega,by omega,by omega,by omega,fun x hx=>?_⟩;rw[qO,qZ] at h5;have:=h5 x hx;simpa using this
structure Good (m:Mo):Prop where
 num:m.pts.length+m.crs.length<=16
 full:Full m
 crs:∀c∈m.crs,CrGood m c
theorem LV {m:Mo}(h:EY m=0):Good m:=by
 unfold EY at h;split at h
 .cases h
 .split at h
  .rename_i h2; exact absurd h h2
  .split at h
   .cases h
   .split at h
    .rename_i h4; exact absurd h h4
    .rename_i h1 h2 h3 h4
     refine⟨by omega,full_of (by simpa using h2),fun c hc=>AR2 (ZU _ (by simpa using h4) c hc)⟩
theorem ARS (G:Nat->AV)(hT:OB G)(m:Mo)(l:List Is)(s:SM)(h:Hp)(hm:MoOk m)(hg:Good m)(hl:∀x∈l,x.l.length<=1048576):PCall (En G) 125 [.agg (D5 m),.sl s 1 (l.map encL)] h (.bool (JY (okC m) m.crs l)):=by
 refine ACalls.pure0 rfl ?_;have hm1:=hm.nc;refine acN Tryz.func125 rfl ?_;show awp _ _ _ _ _ (EN _ [.tmp 4] _);simp -implicitDefEqProofs only[BC,BA,BI,A8,AY,BB,AO,AQ,AL,BD,AX,AC,AA,AZ,AU,BM,BG,A7,FU,BQ,BR,BJ,DZ,BX,AB,EK,BF,BN,↓reduceIte,jA,jG,jB,jC,enP,VQ,J8,YU,bxM,DL ABH,UO,jI];refine CV (fun h1=>?_) (fun h1=>?_)
 .simp -implicitDefEqProofs only[BC,BA,BK,A8,CP,CG,AY,BB,AO,AQ,AL,BD,AX,AC,AA,AU,BM,A7,↓reduceIte,jB,jC]
  have:JY (okC m) m.crs l=false:=by
   rw[<-qO]; intro e;have:=NT e;simp at h1; omega
  exact⟨by rw[this],_,rfl⟩
 have hlen:l.length=m.crs.length:=by simp at h1; omega
 simp -implicitDefEqProofs only[BC,BP,BA,BO,A8,AY,BB,AO,AQ,AL,BD,AX,AC,AA,AZ,AU,BH,BG,BQ,BJ,DZ,AB,↓reduceIte,jA,jG,jB,jC,enP,VQ,J8,DL ABH,UO,jI];refine DK (fun n F H=>∃i,n+i=m.crs.length∧F 1=.sl s 1 (l.map encL)∧F 2=.ptr h.length 0 0∧F 17=.sl m.cm 3 (m.crs.map GG)∧F 18=.int .i64 m.crs.length∧F 19=.int .i64 (i:Nat)∧H[h.length]?=some (.live 2 [D5 m])∧(∃x,H=h++x)∧JY (okC m) m.crs l=JY (okC m) (m.crs.drop i) (l.drop i)) m.crs.length ⟨0,by simp,by simp -implicitDefEqProofs only[AA,BF,BN,↓reduceIte,jA],by simp -implicitDefEqProofs only[AA,↓reduceIte,jA],by simp -implicitDefEqProofs only[AA,↓reduceIte,jA],by simp -implicitDefEqProofs only[AA,↓reduceIte,jA],by simp -implicitDefEqProofs only[AA,↓reduceIte]; rfl,CX _ _,⟨_,rfl⟩,rfl⟩ ?_;rintro n F H ⟨i,hi,f1,f2,f17,f18,f19,gm,hx,hf⟩;simp -implicitDefEqProofs only[BC,BA,BI,A8,AY,BB,AO,AQ,AL,BD,AX,AC,AA,AZ,BR,AB,CZ,↓reduceIte,jB,jC,enP,f18,f19];refine CV (fun hc=>?_) (fun hc=>?_)
 .have hi':i<m.crs.length:=by simpa using hc
  have hil:i<l.length:=by omega
  rw[XO (okC m) m.crs l i hi' hil] at hf;have hcg:=hg.crs _ (jQ hi');have hfs:=hg.full.szs hcg.here;have hsl:=LJ m m.crs[i].pts
  have hx1:∃x,H++[ABlk.live 3 [GG m.crs[i]]]=h++x:=by
   obtain⟨x,rfl⟩:=hx;exact⟨_,zA _ _ _⟩
  have hxl:=hl _ (jQ hil);have gm1:(H++[ABlk.live 3 [GG m.crs[i]]])[h.length]?=some (.live 2 [D5 m]):=CU gm;have gc1:=CX H (.live 3 [GG m.crs[i]]);have htwo:=hcg.two;have hfour:=hcg.four;have hpr:=hcg.prod;simp -implicitDefEqProofs only[BC,BP,BA,BO,A8,AY,BB,AO,AQ,AL,BD,AX,AC,EM,AA,AZ,BZ,BG,A7,EX,BQ,D6,CE,CB,BU,BX,AB,CY,jD,jE,jF,↓reduceIte,jA,jB,jC,enP,WF,jP,f2,f17,f19,DU hi',FM AAD XY KD hi',ASF,AQP _ _ [.str ⟨#[]⟩,.sl .nil 0 [],.sl .nil 0 []] rfl,ldM gm1,ldC gc1];refine(RS G m _ _ hcg.here (by omega)).use ?_;simp -implicitDefEqProofs only[BC,A8,AY,BB,AO,AQ,AL,BD,AX,AC,AA,AZ,A7,↓reduceIte,jB,jC];refine E8 (by kernel_rfl) ?_;simp -implicitDefEqProofs only[F6,EH,DT,EI,FT,FH,I4,EF,IW,GU,F9,AO,AA,AZ,BZ,BQ,BR,CE,DZ,AB,jD,jE,jF,↓reduceIte,jA,jM,jB,enP,OI,JD,f1,DU hil,DF KP hil,OC,jI];refine⟨_,QX G _ _ _ (fun n hn=>(hfs n hn).2) (by omega),?_⟩
  try simp -implicitDefEqProofs only[DT,FB,BI,A8,AA,AZ,AB,EK,↓reduceIte]
  refine CV (fun h2=>?_) (fun h2=>?_)
  .simp -implicitDefEqProofs only[BC,BA,BK,A8,CP,EE,FQ,CG,AY,BB,AO,AQ,AL,BD,AX,AC,AA,AU,BM,A7,↓reduceIte,jB,jC]
   have:okC m m.crs[i] l[i]=false:=by
    have:(l[i].l.length==GK (szs m m.crs[i].pts))=false:=by
     rw[beq_eq_false_iff_ne]; intro e; simp [e] at h2
    unfold okC; rw[this]; rfl
   exact⟨by rw[hf,this]; rfl,hx1⟩
  have hbl:l[i].l.length=GK (szs m m.crs[i].pts):=by simp at h2; omega
  have hok:okC m m.crs[i] l[i]=PP (fun k=>Q3 m m.crs[i] (NG (szs m m.crs[i].pts) k)) 0 l[i].l:=by
   unfold okC; rw[beq_iff_eq.2 hbl]; rfl
  simp -implicitDefEqProofs only[BC,BP,BA,BO,A8,AY,BB,AO,AQ,AL,BD,AX,AC,AA,AZ,AU,BH,BG,BQ,CE,DZ,AB,↓reduceIte,jA,jB,jC,enP,OI,JD,f1,DU hil,DF KP hil,OC,jI];refine GM 2 (fun F' H'=>F' 1=.sl s 1 (l.map encL)∧F' 2=.ptr h.length 0 0∧F' 17=.sl m.cm 3 (m.crs.map GG)∧F' 18=.int .i64 m.crs.length∧F' 19=.int .i64 (i:Nat)∧H'=H++[.live 3 [GG m.crs[i]]]∧okC m m.crs[i] l[i]=true) (fun F' H'=>F' 4=.bool false∧H'=H++[.live 3 [GG m.crs[i]]]∧okC m m.crs[i] l[i]=false) ?_ ?_ ?_
  .refine DK (fun n F' H'=>∃k,n+k=l[i].l.length∧F' 1=.sl s 1 (l.map encL)∧F' 2=.ptr h.length 0 0∧F' 17=.sl m.cm 3 (m.crs.map GG)∧F' 18=.int .i64 m.crs.length∧F' 19=.int .i64 (i:Nat)∧F' 6=.ptr H.length 0 0∧F' 7=.sl (nm (szs m m.crs[i].pts)) 1 ((szs m m.crs[i].pts).map II)∧F' 38=.sl l[i].m 1 (l[i].l.map encI)∧F' 39=.int .i64 l[i].l.length∧F' 40=.int .i64 (k:Nat)∧H'=H++[.live 3 [GG m.crs[i]]]∧okC m m.crs[i] l[i]=PP (fun k=>Q3 m m.crs[i] (NG (szs m m.crs[i].pts) k)) k (l[i].l.drop k)) l[i].l.length ⟨0,by simp,by simp -implicitDefEqProofs only[AA,↓reduceIte,jA,f1],by simp -implicitDefEqProofs only[AA,↓reduceIte,jA,f2],by simp -implicitDefEqProofs only[AA,↓reduceIte,jA,f17],by simp -implicitDefEqProofs only[AA,↓reduceIte,jA,f18],by simp -implicitDefEqProofs only[AA,↓reduceIte,jA,f19],by simp -implicitDefEqProofs only[AA,↓reduceIte,jA],by simp -implicitDefEqProofs only[AA,↓reduceIte,jA],by simp -implicitDefEqProofs only[AA,↓reduceIte,jA],by simp -implicitDefEqProofs only[AA,↓reduceIte,jA],by simp -implicitDefEqProofs only[AA,↓reduceIte]; rfl,rfl,hok⟩ ?_
   clear f1 f2 f17 f18 f19;rintro n' F H' ⟨k,hk,f1,f2,f17,f18,f19,f6,f7,f38,f39,f40,rfl,hr⟩;simp -implicitDefEqProofs only[BC,BA,BI,A8,AY,BB,AO,AQ,AL,BD,AX,AC,AA,AZ,BR,AB,CZ,↓reduceIte,jB,jC,enP,f39,f40];refine CV (fun hc=>?_) (fun hc=>?_)
   .have hk':k<l[i].l.length:=by simpa using hc
    rw[XG _ _ _ hk'] at hr;simp -implicitDefEqProofs only[BC,BP,BA,BO,A8,AY,BB,AO,AQ,AL,BD,AX,AC,AA,AZ,BG,A7,BQ,CE,AB,↓reduceIte,jA,jB,jC,enP,JF,f38,f40,DU hk',DF ag3 hk',encI0];refine E8 (by kernel_rfl) ?_;simp -implicitDefEqProofs only[F6,EH,DT,EI,FT,FH,ADE,GU,F9,AO,AA,AZ,BZ,BQ,IG,AB,jD,jE,jF,↓reduceIte,jA,jM,jB,enP,f2,f6,f7,ldM gm1,ldC gc1];refine⟨_,hT _ _ k _ (by omega) (by omega) hfs (by omega),?_⟩
    try simp -implicitDefEqProofs only[]
    refine⟨_,YA G m m.crs[i] _ _ _ hcg.here (UB _ _ fun n hn=>(hfs n hn).1) (by omega) (by have:=hcg.num; omega),?_⟩
    try simp -implicitDefEqProofs only[]
    refine⟨_,VA G _ _ _,?_⟩
    try simp -implicitDefEqProofs only[DT,FB,BI,A8,AA,AZ,AB,FI,↓reduceIte]
    cases hcb:countB l[i].l[k] (Q3 m m.crs[i] (NG (szs m m.crs[i].pts) k))
    .simp -implicitDefEqProofs only[BC,BA,BK,A8,CP,EE,NM,FQ,DI,AY,BB,AO,AQ,AL,BD,AX,AC,AA,AU,BM,A7,↓reduceIte,jB,jC]
     exact⟨trivial,trivial,by rw[hr,hcb]; rfl⟩
    .simp -implicitDefEqProofs only[BA,BO,A8,EJ,EQ,DR,AY,BB,AO,AQ,AL,BD,AX,AC,AA,AZ,AU,BH,BG,BR,AB,C9,↓reduceIte,jA,jB,jR,jC,enP,f40,wrap_succ (show k<9223372036854775807 by omega)]
     exact⟨n'-1,by omega,k+1,by omega,f1,f2,f17,f18,f19,f6,f7,f38,f39,rfl,trivial,by rw[hr,hcb]; rfl⟩
   .have hk':¬k<l[i].l.length:=by simpa using hc
    simp -implicitDefEqProofs only[DJ,EG,KC,ET,AA,↓reduceIte,jA];exact⟨f1,f2,f17,f18,f19,trivial,by rw[hr,jW (by omega)]; rfl⟩
  .rintro F' H' ⟨g1,g2,g17,g18,g19,rfl,hr⟩
   simp -implicitDefEqProofs only[BA,A8,EJ,EU,EQ,AY,BB,AO,AQ,AL,BD,AX,AC,AA,AZ,AU,BH,BG,BR,AB,C9,↓reduceIte,jA,jB,jC,enP,g19,wrap_succ (show i<9223372036854775807 by omega)];exact⟨n-1,by omega,i+1,by omega,g1,g2,g17,g18,rfl,gm1,hx1,by rw[hf,hr]; rfl⟩
  .rintro F' H' ⟨g4,rfl,hr⟩
   simp -implicitDefEqProofs only[CP,EE,FQ,CG,g4];exact⟨by rw[hf,hr]; rfl,hx1⟩
 .have hi':¬i<m.crs.length:=by simpa using hc
  simp -implicitDefEqProofs only[BC,BA,BK,DJ,A8,EG,EU,ET,CG,AY,BB,AO,AQ,AL,BD,AX,AC,AA,AU,BM,A7,↓reduceIte,jB,jC];exact⟨by rw[hf,ZX (okC m) _ _ i (by omega) (by omega)],hx⟩
def G5 (m:Mo)(v:Cvr):Bool:=(EY m==0)&&JY okP m.pts v.pts&&JY (okC m) m.crs v.crs&&G9 v.sam&&G9 v.ill
theorem ACA (n:Int):countB n true=G9 n:=by unfold countB; simp
theorem XN (G:Nat->AV)(hG:GOk G)(hT:OB G)(m:Mo)(v:Cvr)(hm:MoOk m)(hv:CvOk v)(h:Hp):PCall (En G) 66 [.agg (D5 m),.agg (ER v)] h (.bool (G5 m v)):=by
 refine ACalls.pure0 rfl ?_;refine acN Tryz.func66 rfl ?_;show awp _ _ _ _ _ (EN _ [.tmp 4] _);have gm:(h++[ABlk.live 2 [D5 m]]++[ABlk.live 4 [ER v]])[h.length]?=some (.live 2 [D5 m]):=CU (CX _ _);have gv:=CX (h++[ABlk.live 2 [D5 m]]) (.live 4 [ER v]);have hx:∃x,h++[ABlk.live 2 [D5 m]]++[ABlk.live 4 [ER v]]=h++x:=⟨_,zA _ _ _⟩;simp -implicitDefEqProofs only[BC,BA,A8,AY,BB,AO,AQ,AL,BD,AX,AC,AA,AZ,AU,BM,A7,FU,BQ,BX,BF,BN,↓reduceIte,jA,jB,jC,enP,bxM,bxV]
 generalize h++[ABlk.live 2 [D5 m]]++[ABlk.live 4 [ER v]]=H at gm gv hx|-
 generalize (h++[ABlk.live 2 [D5 m]]).length=vb at gv|-
 have l0:ED Tryz.prog H 26 (.ptr vb 0 0)=some (.sl v.pm 1 (v.pts.map encL)):=by rw[DX Q7 gv (row:=ER v) rfl,ALM]
 have l1:ED Tryz.prog H 26 (.ptr vb 0 1)=some (.sl v.cm 1 (v.crs.map encL)):=by rw[DX Q7 gv (row:=ER v) rfl,ALK]
 have l2:ED Tryz.prog H 3 (.ptr vb 0 2)=some (.int .i64 v.sam):=by rw[DX ag3 gv (row:=ER v) rfl,AP3]
 have l3:ED Tryz.prog H 3 (.ptr vb 0 3)=some (.int .i64 v.ill):=by rw[DX ag3 gv (row:=ER v) rfl,AP2]
 simp -implicitDefEqProofs only[AY,AO,AQ,AL,BD,AX,AC,AA,AZ,BZ,CB,BU,AB,jD,jE,jF,↓reduceIte,jB,jC,ldM gm];refine(RY G hG m hm _).use ?_;simp -implicitDefEqProofs only[AY,BL,BV,CO,AO,AQ,AL,BD,AX,AC,AA,AZ,AU,BH,BG,BR,AB,D7,↓reduceIte,jB,jC,enP];cases h1:(EY m==0)
 .simp -implicitDefEqProofs only[BK,A8,CG,AY,BB,BL,BV,CO,IU,AO,AQ,AL,BD,AX,AC,AA,EW,AZ,AU,BM,BG,A7,CQ,DW,↓reduceIte,jA,jB,jC]
  exact⟨by unfold G5; rw[h1]; rfl,hx⟩
 have hg:=LV (beq_iff_eq.1 h1);simp -implicitDefEqProofs only[BL,BV,CO,GH,AO,AQ,AL,BD,AX,AC,AA,AZ,BZ,BQ,BJ,CB,BU,AB,jD,jE,jF,↓reduceIte,jA,jK,jB,jC,enP,MJ,ldM gm,l0];refine(ARR G m v.pts v.pm _ hm hv.eachP).use ?_;simp -implicitDefEqProofs only[AY,BL,BV,CO,AO,AQ,AL,BD,AX,AC,AA,AZ,AU,BM,BG,CQ,DY,↓reduceIte,jA,jB,jC];cases h2:JY okP m.pts v.pts
 .simp -implicitDefEqProofs only[BK,A8,CG,AY,BB,BL,BV,CO,IU,AO,AQ,AL,BD,AX,AC,AA,EW,AZ,AU,BM,BG,A7,CQ,DW,↓reduceIte,jA,jB,jC]
  exact⟨by unfold G5; rw[h1,h2]; rfl,hx⟩
 simp -implicitDefEqProofs only[BL,BV,CO,GH,AO,AQ,AL,BD,AX,AC,AA,AZ,BZ,BQ,BJ,CB,BU,AB,jD,jE,jF,↓reduceIte,jA,jG,jB,jC,enP,L6,ldM gm,l1];refine(ARS G hT m v.crs v.cm _ hm hg hv.eachC).use ?_;simp -implicitDefEqProofs only[AY,BL,BV,CO,AO,AQ,AL,BD,AX,AC,AA,AZ,AU,BM,BG,CQ,DY,↓reduceIte,jA,jB,jC];cases h3:JY (okC m) m.crs v.crs
 .simp -implicitDefEqProofs only[BK,A8,CG,AY,BB,BL,BV,CO,IU,AO,AQ,AL,BD,AX,AC,AA,EW,AZ,AU,BM,BG,A7,CQ,DW,↓reduceIte,jA,jB,jC]
  exact⟨by unfold G5; rw[h1,h2,h3]; rfl,hx⟩
 simp -implicitDefEqProofs only[BL,BV,CO,GH,AO,AQ,AL,BD,AX,AC,AA,AZ,AU,BZ,BM,BQ,BJ,CB,BU,AB,jD,jE,jF,↓reduceIte,jA,jG,jB,jC,enP,U9,l2];refine(VA G _ _ _).use ?_;simp -implicitDefEqProofs only[AY,BL,BV,CO,AO,AQ,AL,BD,AX,AC,AA,AZ,AU,BM,BG,CQ,DY,↓reduceIte,jA,jB,jC,ACA];cases h4:G9 v.sam
 .simp -implicitDefEqProofs only[BK,A8,CG,AY,BB,BL,BV,CO,IU,AO,AQ,AL,BD,AX,AC,AA,EW,AZ,AU,BM,A7,CQ,DW,↓reduceIte,jA,jB,jC]
  exact⟨by unfold G5; rw[h1,h2,h3,h4]; rfl,hx⟩
 simp -implicitDefEqProofs only[BL,BV,CO,GH,AO,AQ,AL,BD,AX,AC,AA,AZ,AU,BZ,BM,BQ,BJ,CB,BU,AB,jD,jE,jF,↓reduceIte,jA,jG,jB,jC,enP,WN,l3];refine(VA G _ _ _).use ?_;simp -implicitDefEqProofs only[BK,A8,CG,AY,BB,AO,AQ,AL,BD,AX,AC,AA,AZ,AU,BM,A7,CQ,DY,↓reduceIte,jA,jB,jC,ACA];exact⟨by unfold G5; rw[h1,h2,h3,h4]; rfl,hx⟩
structure TwoV (h H:Hp) (m:Mo) (v:Cvr) (vb:Nat):Prop where
 gm:H[h.length]?=some (.live 2 [D5 m])
 gv:H[vb]?=some (.live 4 [ER v])
 hx:∃x,H=h++x
theorem TwoV.mk' (h:Hp)(m:Mo)(v:Cvr):TwoV h (h++[.live 2 [D5 m]]++[.live 4 [ER v]]) m v (h++[ABlk.live 2 [D5 m]]).length:=⟨CU (CX _ _),CX _ _,⟨_,zA _ _ _⟩⟩
section
variable {h H:Hp} {m:Mo} {v:Cvr} {vb:Nat} (t:TwoV h H m v vb)
include t
theorem TwoV.m0:ED Tryz.prog H 22 (.ptr h.length 0 0)=some (.sl m.pm 6 (m.pts.map GL)):=by rw[DX WV t.gm (row:=D5 m) rfl,QJ]
theorem TwoV.m1:ED Tryz.prog H 23 (.ptr h.length 0 1)=some (.sl m.cm 3 (m.crs.map GG)):=by rw[DX ABH t.gm (row:=D5 m) rfl,UO]
theorem TwoV.l0:ED Tryz.prog H 26 (.ptr vb 0 0)=some (.sl v.pm 1 (v.pts.map encL)):=by rw[DX Q7 t.gv (row:=ER v) rfl,ALM]
theorem TwoV.l1:ED Tryz.prog H 26 (.ptr vb 0 1)=some (.sl v.cm 1 (v.crs.map encL)):=by rw[DX Q7 t.gv (row:=ER v) rfl,ALK]
theorem TwoV.l2:ED Tryz.prog H 3 (.ptr vb 0 2)=some (.int .i64 v.sam):=by rw[DX ag3 t.gv (row:=ER v) rfl,AP3]
theorem TwoV.l3:ED Tryz.prog H 3 (.ptr vb 0 3)=some (.int .i64 v.ill):=by rw[DX ag3 t.gv (row:=ER v) rfl,AP2]
end
theorem AE3 (n:Int)(may:Bool):countB n may = !(!G9 n||(decide (n>0) && !may)):=by
 unfold countB;cases hw:G9 n
 .rfl
 .have h0:0<=n:=by
   unfold G9 at hw; simp at hw; exact hw.1
  cases may
  .have:(n==0) = !decide (n>0):=by rw[Bool.eq_iff_iff]; simp; omega
   rw[this]; cases decide (n>0)<;>rfl
  .cases decide (n>0)<;>rfl
set_option maxHeartbeats 1000000 in
theorem AU3 (G:Nat->AV)(m:Mo)(v:Cvr)(hm:MoOk m)(hv:CvOk v)(h:Hp):PCall (En G) 39 [.agg (D5 m),.agg (ER v)] h (.bool (G5 m v)):=by
 refine ACalls.pure0 rfl ?_;have hm1:=hm.np;have hm2:=hm.nc;refine acN Tryz.func39 rfl ?_;show awp _ _ _ _ _ (EN _ [.tmp 4] _);have t:=TwoV.mk' h m v;simp -implicitDefEqProofs only[BC,BA,A8,AY,BB,AO,AQ,AL,BD,AX,AC,AA,AZ,AU,BM,A7,FU,BQ,BX,BF,BN,↓reduceIte,jA,jB,jC,enP,bxM,bxV]
 generalize h++[ABlk.live 2 [D5 m]]++[ABlk.live 4 [ER v]]=H at t|-
 generalize (h++[ABlk.live 2 [D5 m]]).length=vb at t|-
 have hlp:m.pts.length≠v.pts.length->JY okP m.pts v.pts=false:=fun hne=>by
  rw[<-qO]; exact fun e=>hne (NT e)
 have hlc:m.crs.length≠v.crs.length->JY (okC m) m.crs v.crs=false:=fun hne=>by
  rw[<-qO]; exact fun e=>hne (NT e)
 simp -implicitDefEqProofs only[AY,AO,AQ,AL,BD,AX,AC,AA,AZ,BZ,CB,BU,AB,jD,jE,jF,↓reduceIte,jB,jC,ldM t.gm];refine(UH G m hm _).use ?_;simp -implicitDefEqProofs only[AY,BL,BV,CO,AO,AQ,AL,BD,AX,AC,AA,AZ,AU,BH,BG,BR,AB,EK,↓reduceIte,jB,jC,enP,bne];cases h1:(EY m==0)
 .simp -implicitDefEqProofs only[BC,BA,BK,BI,A8,CP,CG,DI,AY,BB,BL,BV,CO,F7,AO,AQ,AL,BD,AX,AC,AA,EW,AZ,AU,BM,BG,A7,CQ,DY,↓reduceIte,jA,jB,jC]
  exact⟨by unfold G5; rw[h1]; rfl,t.hx⟩
 have hg:=LV (beq_iff_eq.1 h1);simp -implicitDefEqProofs only[AY,BL,BV,CO,ES,AO,AQ,AL,BD,AX,AC,AA,AZ,AU,BM,BG,CQ,DW,BQ,BR,BJ,DZ,AB,EK,↓reduceIte,jA,jK,jB,jR,jC,enP,QZ,IP,YU,MJ,t.m0,t.l0,jI,bne];cases h2:((v.pts.length:Int)==(m.pts.length:Int))
 .simp -implicitDefEqProofs only[BC,BA,BK,BI,A8,CP,CG,DI,AY,BB,BL,BV,CO,F7,AO,AQ,AL,BD,AX,AC,AA,EW,AZ,AU,BM,BG,A7,CQ,DY,↓reduceIte,jA,jB,jC]
  have:=hlp (by simp at h2; omega);exact⟨by unfold G5; rw[this]; simp,t.hx⟩
 have h2':v.pts.length=m.pts.length:=by simp at h2; omega
 simp -implicitDefEqProofs only[AY,BL,BV,CO,ES,AO,AQ,AL,BD,AX,AC,AA,AZ,AU,BM,BG,CQ,DW,BQ,BR,BJ,DZ,AB,EK,↓reduceIte,jA,jG,jB,jR,jC,enP,VQ,J8,YU,L6,t.m1,t.l1,jI,bne];cases h3:((v.crs.length:Int)==(m.crs.length:Int))
 .simp -implicitDefEqProofs only[BC,BA,BK,BI,A8,CP,CG,DI,AY,BB,BL,BV,CO,F7,AO,AQ,AL,BD,AX,AC,AA,EW,AZ,AU,BM,BG,A7,CQ,DY,↓reduceIte,jA,jB,jC]
  have:=hlc (by simp at h3; omega);exact⟨by unfold G5; rw[this]; simp,t.hx⟩
 have h3':v.crs.length=m.crs.length:=by simp at h3; omega
 simp -implicitDefEqProofs only[BL,BV,CO,ES,AO,AQ,AL,BD,AX,AC,AA,AZ,BZ,BQ,BJ,CB,BU,AB,jD,jE,jF,↓reduceIte,jA,jG,jB,jR,jC,enP,U9,t.l2];refine(U2 G _ _).use ?_;simp -implicitDefEqProofs only[AY,BL,BV,CO,ES,AO,AQ,AL,BD,AX,AC,AA,AZ,AU,BM,BG,CQ,DW,IG,AB,FI,↓reduceIte,jA,jB,jC];cases h4:G9 v.sam
 .simp -implicitDefEqProofs only[BC,BA,BK,BI,A8,CP,CG,DI,AY,BB,BL,BV,CO,F7,AO,AQ,AL,BD,AX,AC,AA,EW,AZ,AU,BM,A7,CQ,DY,↓reduceIte,jA,jB,jC]
  exact⟨by unfold G5; rw[h4]; simp,t.hx⟩
 simp -implicitDefEqProofs only[BL,BV,CO,ES,AO,AQ,AL,BD,AX,AC,AA,AZ,BZ,BQ,BJ,CB,BU,AB,jD,jE,jF,↓reduceIte,jA,jG,jB,jR,jC,enP,WN,t.l3];refine(U2 G _ _).use ?_;simp -implicitDefEqProofs only[BI,A8,AY,BB,BL,BV,CO,ES,AO,AQ,AL,BD,AX,AC,AA,AZ,AU,BM,CQ,DW,IG,AB,FI,↓reduceIte,jA,jB,jC];cases h5:G9 v.ill
 .simp -implicitDefEqProofs only[BC,BA,BK,A8,CP,CG,DI,AY,BB,AO,AQ,AL,BD,AX,AC,AA,AU,BM,A7,↓reduceIte,jB,jC]
  exact⟨by unfold G5; rw[h5]; simp,t.hx⟩
 have hfb:G5 m v=(JY okP m.pts v.pts&&JY (okC m) m.crs v.crs):=by unfold G5; rw[h1,h4,h5]; simp
 rw[hfb];simp -implicitDefEqProofs only[BC,BP,BA,BO,A8,DR,AY,BB,AO,AQ,AL,BD,AX,AC,AU,BH,A7,jB,jR,jC];refine GM 0 (fun F H'=>F 2=.ptr h.length 0 0∧F 3=.ptr vb 0 0∧H'=H∧JY okP m.pts v.pts=true) (fun F H'=>F 4=.bool false∧H'=H∧JY okP m.pts v.pts=false) ?_ ?_ ?_
 .refine DK (fun n F H'=>∃i,n+i=m.pts.length∧F 2=.ptr h.length 0 0∧F 3=.ptr vb 0 0∧F 5=.int .i64 (i:Nat)∧H'=H∧JY okP m.pts v.pts=JY okP (m.pts.drop i) (v.pts.drop i)) m.pts.length ⟨0,by simp,by simp -implicitDefEqProofs only[AA,↓reduceIte,jA],by simp -implicitDefEqProofs only[AA,↓reduceIte,jA],by simp -implicitDefEqProofs only[AA,↓reduceIte]; rfl,rfl,rfl⟩ ?_
  rintro n F H' ⟨i,hi,f2,f3,f5,rfl,hf⟩;simp -implicitDefEqProofs only[BC,BA,BI,A8,AY,BB,AO,AQ,AL,BD,AX,AC,AA,AZ,BG,BQ,BR,BJ,DZ,AB,CZ,↓reduceIte,jA,jK,jB,jC,enP,QZ,IP,f2,f5,t.m0,jI];refine CV (fun hc=>?_) (fun hc=>?_)
  .have hi':i<m.pts.length:=by simpa using hc
   have hil:i<v.pts.length:=by omega
   rw[XO okP m.pts v.pts i hi' hil] at hf;have hxl:=hv.eachP _ (jQ hil);simp -implicitDefEqProofs only[BC,BP,BO,A8];refine E8 (by kernel_rfl) ?_;simp -implicitDefEqProofs only[F6,EH,DT,FB,EI,FT,FH,I4,D9,EF,IW,BI,A8,AO,AA,AZ,BQ,BR,BJ,CE,DZ,AB,EK,↓reduceIte,jA,jM,jK,jG,jB,enP,S9,IP,OI,MJ,RZ,I9,JD,f2,f3,f5,t.m0,t.l0,DU hil,DU hi',DF KP hil,OC,DF SQ hi',NU,jI];refine CV (fun h6=>?_) (fun h6=>?_)
   .simp -implicitDefEqProofs only[BC,BA,BK,A8,CP,EE,NM,FQ,AY,BB,AO,AQ,AL,BD,AX,AC,AA,AU,BM,A7,↓reduceIte,jB,jC]
    have:okP m.pts[i] v.pts[i]=false:=by
     have:(v.pts[i].l.length==m.pts[i].bins.length)=false:=by
      rw[beq_eq_false_iff_ne]; intro e; simp [e] at h6
     unfold okP; rw[this]; rfl
    exact⟨trivial,trivial,by rw[hf,this]; rfl⟩
   have hbl:v.pts[i].l.length=m.pts[i].bins.length:=by simp at h6; omega
   have hok:okP m.pts[i] v.pts[i]=PP (fun k=>kindOf m.pts[i] k==0) 0 v.pts[i].l:=by
    unfold okP; rw[beq_iff_eq.2 hbl]; rfl
   simp -implicitDefEqProofs only[BC,BP,BA,BO,A8,AY,BB,AO,AQ,AL,BD,AX,AC,AU,BH,A7,jB,jC];refine GM 2 (fun F' H=>F' 2=.ptr h.length 0 0∧F' 3=.ptr vb 0 0∧F' 5=.int .i64 (i:Nat)∧H=H'∧okP m.pts[i] v.pts[i]=true) (fun F' H=>F' 4=.bool false∧H=H'∧okP m.pts[i] v.pts[i]=false) ?_ ?_ ?_
   .refine DK (fun n F' H=>∃k,n+k=v.pts[i].l.length∧F' 2=.ptr h.length 0 0∧F' 3=.ptr vb 0 0∧F' 5=.int .i64 (i:Nat)∧F' 6=.int .i64 (k:Nat)∧H=H'∧okP m.pts[i] v.pts[i]=PP (fun k=>kindOf m.pts[i] k==0) k (v.pts[i].l.drop k)) v.pts[i].l.length ⟨0,by simp,by simp -implicitDefEqProofs only[AA,↓reduceIte,jA,f2],by simp -implicitDefEqProofs only[AA,↓reduceIte,jA,f3],by simp -implicitDefEqProofs only[AA,↓reduceIte,jA,f5],by simp -implicitDefEqProofs only[AA,↓reduceIte]; rfl,rfl,hok⟩ ?_
    clear f2 f3 f5;rintro n' F H' ⟨k,hk,f2,f3,f5,f6,rfl,hr⟩;simp -implicitDefEqProofs only[BC,BA,BI,A8,AY,BB,AO,AQ,AL,BD,AX,AC,AA,AZ,BG,BQ,BR,BJ,CE,DZ,AB,CZ,↓reduceIte,jA,jK,jB,jC,enP,OI,MJ,JD,f3,f5,f6,t.l0,DU hil,DF KP hil,OC,jI];refine CV (fun hc=>?_) (fun hc=>?_)
    .have hk':k<v.pts[i].l.length:=by simpa using hc
     have hkb:k<m.pts[i].bins.length:=by omega
     have hkd:kindOf m.pts[i] k=(m.pts[i].bins[k]).kind:=by unfold kindOf; rw[jS hkb]
     rw[XG _ _ _ hk',hkd,AE3] at hr;simp -implicitDefEqProofs only[BC,BP,BA,BO,A8,AY,BB,AO,AQ,AL,BD,AX,AC,AA,AZ,BZ,BG,A7,BQ,BJ,CE,CB,BU,AB,jD,jE,jF,↓reduceIte,jA,jK,jB,jC,enP,OI,MJ,JF,f3,f5,f6,t.l0,DU hil,DF KP hil,OC,DU hk',DF ag3 hk',encI0];refine(U2 G _ _).use ?_;simp -implicitDefEqProofs only[AY,BL,BV,CO,AO,AQ,AL,BD,AX,AC,AA,AZ,BG,IG,AB,FI,↓reduceIte,jB,jC];cases hw:G9 v.pts[i].l[k]
     .simp -implicitDefEqProofs only[BC,BA,BK,BI,A8,CP,EE,NM,FQ,DI,AY,BB,BL,BV,CO,F7,SV,AO,AQ,AL,BD,AX,AC,AA,EW,AZ,AU,BM,A7,CQ,DY,↓reduceIte,jA,jB,jC]
      exact⟨trivial,trivial,by rw[hr,hw]; rfl⟩
     rw[hw] at hr;simp -implicitDefEqProofs only[BL,BV,CO,ES,AO,AQ,AL,BD,AX,AC,AA,AZ,AU,BH,BG,BR,AB,FV,↓reduceIte,jA,jB,jR,jC,enP];cases hp:decide (v.pts[i].l[k]>0)
     .simp -implicitDefEqProofs only[BA,BO,BI,A8,EJ,EQ,DR,AY,BB,BL,BV,CO,ES,IU,AO,AQ,AL,BD,AX,AC,AA,EW,AZ,AU,BH,BM,BG,A7,CQ,DW,BR,AB,C9,↓reduceIte,jA,jB,jC,enP,f6,wrap_succ (show k<9223372036854775807 by omega)]
      exact⟨n'-1,by omega,k+1,by omega,f2,f3,f5,rfl,trivial,by rw[hr,hp]; rfl⟩
     rw[hp] at hr;simp -implicitDefEqProofs only[BI,A8,AY,BB,BL,BV,CO,GH,ES,AO,AQ,AL,BD,AX,AC,AA,AZ,AU,BH,BM,BG,CQ,DY,DW,BQ,BR,BJ,CE,AB,EK,↓reduceIte,jA,jK,jG,jB,jC,enP,S9,IP,YX,I9,MR,f2,f5,f6,t.m0,DU hi',DF SQ hi',NU,DU hkb,DF ag3 hkb,UR,bne];cases hz:(m.pts[i].bins[k].kind==0)
     .simp -implicitDefEqProofs only[BC,BA,BK,A8,CP,EE,NM,FQ,DI,AY,BB,AO,AQ,AL,BD,AX,AC,AA,AU,BM,A7,↓reduceIte,jB,jC]
      exact⟨trivial,trivial,by rw[hr,hz]; rfl⟩
     .simp -implicitDefEqProofs only[BA,BO,A8,EJ,EQ,DR,AY,BB,AO,AQ,AL,BD,AX,AC,AA,AZ,AU,BH,BG,A7,BR,AB,C9,↓reduceIte,jA,jB,jR,jC,enP,f6,wrap_succ (show k<9223372036854775807 by omega)]
      exact⟨n'-1,by omega,k+1,by omega,f2,f3,f5,rfl,trivial,by rw[hr,hz]; rfl⟩
    .have hk':¬k<v.pts[i].l.length:=by simpa using hc
     simp -implicitDefEqProofs only[DJ,EG,KC,ET,AA,↓reduceIte,jA];exact⟨f2,f3,f5,trivial,by rw[hr,jW (by omega)]; rfl⟩
   .rintro F' H' ⟨g2,g3,g5,rfl,hr⟩
    simp -implicitDefEqProofs only[BA,A8,EJ,EU,EQ,AY,BB,AO,AQ,AL,BD,AX,AC,AA,AZ,AU,BH,BG,A7,BR,AB,C9,↓reduceIte,jA,jB,jC,enP,g5,wrap_succ (show i<9223372036854775807 by omega)];exact⟨n-1,by omega,i+1,by omega,g2,g3,rfl,trivial,by rw[hf,hr]; rfl⟩
   .rintro F' H' ⟨g4,rfl,hr⟩
    simp -implicitDefEqProofs only[CP,EE,NM,FQ,g4];exact⟨trivial,trivial,by rw[hf,hr]; rfl⟩
  .have hi':¬i<m.pts.length:=by simpa using hc
   simp -implicitDefEqProofs only[DJ,EG,KC,ET,AA,↓reduceIte,jA];exact⟨f2,f3,trivial,by rw[hf,ZX okP _ _ i (by omega) (by omega)]⟩
 .rintro F H' ⟨f2,f3,rfl,hfp⟩
  rw[hfp,Bool.true_and];simp -implicitDefEqProofs only[BC,BP,BA,A8,EU,AY,BB,AO,AQ,AL,BD,AX,AC,AU,BH,A7,↓reduceIte,jB,jC];refine DK (fun n F H=>∃i,n+i=m.crs.length∧F 2=.ptr h.length 0 0∧F 3=.ptr vb 0 0∧F 8=.int .i64 (i:Nat)∧H=H'∧JY (okC m) m.crs v.crs=JY (okC m) (m.crs.drop i) (v.crs.drop i)) m.crs.length ⟨0,by simp,by simp -implicitDefEqProofs only[AA,↓reduceIte,jA,f2],by simp -implicitDefEqProofs only[AA,↓reduceIte,jA,f3],by simp -implicitDefEqProofs only[AA,↓reduceIte]; rfl,rfl,rfl⟩ ?_;clear f2 f3;rintro n F H' ⟨i,hi,f2,f3,f8,rfl,hf⟩;simp -implicitDefEqProofs only[BC,BA,BI,A8,AY,BB,AO,AQ,AL,BD,AX,AC,AA,AZ,BG,BQ,BR,BJ,DZ,AB,CZ,↓reduceIte,jA,jG,jB,jC,enP,VQ,J8,f2,f8,t.m1,jI];refine CV (fun hc=>?_) (fun hc=>?_)
  .have hi':i<m.crs.length:=by simpa using hc
   have hil:i<v.crs.length:=by omega
   rw[XO (okC m) m.crs v.crs i hi' hil] at hf;have hxl:=hv.eachC _ (jQ hil);have hcg:=hg.crs _ (jQ hi');have hfs:=hg.full.szs hcg.here;have htwo:=hcg.two;have hfour:=hcg.four;have hpr:=hcg.prod;have hnum:=hcg.num;have hmin:min (GK (szs m m.crs[i].pts):Int) 1000=(GK (szs m m.crs[i].pts):Int):=by omega
   simp -implicitDefEqProofs only[BC,BP,BO,A8];refine E8 (by kernel_rfl) ?_;simp -implicitDefEqProofs only[F6,EH,DT,EI,FT,FH,I4,D9,EF,IW,GU,F9,AO,AA,AZ,BZ,BQ,BR,BJ,CE,DZ,AB,jD,jE,jF,↓reduceIte,jA,jM,jG,jB,enP,WF,J8,OI,L6,JD,f2,f3,f8,t.m1,t.l1,ldM t.gm,DU hil,DU hi',DF KP hil,OC,FM AAD XY KD hi',jI];refine⟨_,XT G m m.crs[i] _ hcg.here hg.full (by omega),?_⟩;rw[hmin]
   try simp -implicitDefEqProofs only[DT,FB,BI,A8,AA,AZ,AB,EK,↓reduceIte]
   refine CV (fun h6=>?_) (fun h6=>?_)
   .simp -implicitDefEqProofs only[BC,BA,BK,A8,CP,EE,FQ,CG,AY,BB,AO,AQ,AL,BD,AX,AC,AA,AU,BM,A7,↓reduceIte,jB,jC]
    have:okC m m.crs[i] v.crs[i]=false:=by
     have:(v.crs[i].l.length==GK (szs m m.crs[i].pts))=false:=by
      rw[beq_eq_false_iff_ne]; intro e; simp [e] at h6
     unfold okC; rw[this]; rfl
    exact⟨by rw[hf,this]; rfl,t.hx⟩
   have hbl:v.crs[i].l.length=GK (szs m m.crs[i].pts):=by simp at h6; omega
   have hok:okC m m.crs[i] v.crs[i]=PP (fun k=>Q3 m m.crs[i] (NG (szs m m.crs[i].pts) k)) 0 v.crs[i].l:=by
    unfold okC; rw[beq_iff_eq.2 hbl]; rfl
   simp -implicitDefEqProofs only[BC,BP,BA,BO,A8,AY,BB,AO,AQ,AL,BD,AX,AC,AU,BH,A7,jB,jC];refine GM 6 (fun F' H=>F' 2=.ptr h.length 0 0∧F' 3=.ptr vb 0 0∧F' 8=.int .i64 (i:Nat)∧H=H'∧okC m m.crs[i] v.crs[i]=true) (fun F' H=>F' 4=.bool false∧H=H'∧okC m m.crs[i] v.crs[i]=false) ?_ ?_ ?_
   .refine DK (fun n F' H=>∃k,n+k=v.crs[i].l.length∧F' 2=.ptr h.length 0 0∧F' 3=.ptr vb 0 0∧F' 8=.int .i64 (i:Nat)∧F' 9=.int .i64 (k:Nat)∧H=H'∧okC m m.crs[i] v.crs[i]=PP (fun k=>Q3 m m.crs[i] (NG (szs m m.crs[i].pts) k)) k (v.crs[i].l.drop k)) v.crs[i].l.length ⟨0,by simp,by simp -implicitDefEqProofs only[AA,↓reduceIte,jA,f2],by simp -implicitDefEqProofs only[AA,↓reduceIte,jA,f3],by simp -implicitDefEqProofs only[AA,↓reduceIte,jA,f8],by simp -implicitDefEqProofs only[AA,↓reduceIte]; rfl,rfl,hok⟩ ?_
    clear f2 f3 f8;rintro n' F H' ⟨k,hk,f2,f3,f8,f9,rfl,hr⟩;simp -implicitDefEqProofs only[BC,BA,BI,A8,AY,BB,AO,AQ,AL,BD,AX,AC,AA,AZ,BG,BQ,BR,BJ,CE,DZ,AB,CZ,↓reduceIte,jA,jG,jB,jC,enP,OI,L6,JD,f3,f8,f9,t.l1,DU hil,DF KP hil,OC,jI];refine CV (fun hc=>?_) (fun hc=>?_)
    .have hk':k<v.crs[i].l.length:=by simpa using hc
     rw[XG _ _ _ hk',AE3] at hr;simp -implicitDefEqProofs only[BC,BP,BA,BO,A8,AY,BB,AO,AQ,AL,BD,AX,AC,AA,AZ,BG,A7,BQ,BJ,CE,AB,↓reduceIte,jA,jG,jB,jC,enP,OI,L6,JF,f3,f8,f9,t.l1,DU hil,DF KP hil,OC,DU hk',DF ag3 hk',encI0];refine E8 (by kernel_rfl) ?_;simp -implicitDefEqProofs only[F6,EH,DT,EI,FT,ADE,GU,F9,AO,AA,AZ,BZ,IG,jD,jE,jF,↓reduceIte,jM,jB];refine⟨_,U2 G _ _,?_⟩
     try simp -implicitDefEqProofs only[F6,EH,DT,EI,FN,GI,FT,CO,AO,AA,AZ,AB,FI,↓reduceIte,jM,jB]
     cases hw:G9 v.crs[i].l[k]
     .simp -implicitDefEqProofs only[F6,EH,DT,FB,EI,FN,GI,AAH,A2G,I5,BC,BA,BK,BI,A8,CP,EE,NM,FQ,DI,AY,BB,CO,AO,AQ,AL,BD,AX,AC,AA,EW,AZ,AU,BM,A7,CQ,DY,↓reduceIte,jA,jM,jB,jC]
      exact⟨trivial,trivial,by rw[hr,hw]; rfl⟩
     rw[hw] at hr;simp -implicitDefEqProofs only[F6,EH,DT,FN,GI,UW,FT,I4,CO,AO,AA,AZ,AU,BH,BR,AB,FV,↓reduceIte,jA,jM,jB,jR,enP];cases hp:decide (v.crs[i].l[k]>0)
     .simp -implicitDefEqProofs only[F6,EH,DT,FB,EI,FN,GI,UW,ACH,I5,BA,BO,BI,A8,EJ,EQ,DR,AY,BB,CO,AO,AQ,AL,BD,AX,AC,AA,EW,AZ,AU,BH,BM,BG,A7,CQ,DW,BR,AB,C9,↓reduceIte,jA,jM,jB,jC,enP,f9,wrap_succ (show k<9223372036854775807 by omega)]
      exact⟨n'-1,by omega,k+1,by omega,f2,f3,f8,rfl,trivial,by rw[hr,hp]; rfl⟩
     rw[hp] at hr;simp -implicitDefEqProofs only[F6,EH,DT,FN,GI,VN,FT,FH,ADE,D9,EF,GU,F9,CO,AO,AA,AZ,BZ,BQ,IG,BJ,CE,AB,jD,jE,jF,↓reduceIte,jA,jM,jG,jB,enP,WF,J8,f2,f8,f9,t.m1,ldM t.gm,DU hi',FM AAD XY KD hi'];refine⟨_,AGD G m m.crs[i] k _ hcg.here hg.full (by omega) (by omega) (by omega),?_⟩
     try simp -implicitDefEqProofs only[]
     refine⟨_,AE2 G m m.crs[i] _ _ _ hcg.here (UB _ _ fun n hn=>(hfs n hn).1) (by omega) (by omega),?_⟩
     try simp -implicitDefEqProofs only[F6,EH,DT,FB,EI,FN,GI,UW,I5,BI,A8,CO,AO,AA,AZ,AU,BM,CQ,DY,DW,AB,FI,↓reduceIte,jA,jM,jB]
     cases hz:Q3 m m.crs[i] (NG (szs m m.crs[i].pts) k)
     .simp -implicitDefEqProofs only[BC,BA,BK,A8,CP,EE,NM,FQ,DI,AY,BB,AO,AQ,AL,BD,AX,AC,AA,AU,BM,A7,↓reduceIte,jB,jC]
      exact⟨trivial,trivial,by rw[hr,hz]; rfl⟩
     .simp -implicitDefEqProofs only[BA,BO,A8,EJ,EQ,DR,AY,BB,AO,AQ,AL,BD,AX,AC,AA,AZ,AU,BH,BG,A7,BR,AB,C9,↓reduceIte,jA,jB,jR,jC,enP,f9,wrap_succ (show k<9223372036854775807 by omega)]
      exact⟨n'-1,by omega,k+1,by omega,f2,f3,f8,rfl,trivial,by rw[hr,hz]; rfl⟩
    .have hk':¬k<v.crs[i].l.length:=by simpa using hc
     simp -implicitDefEqProofs only[DJ,EG,KC,ET,AA,↓reduceIte,jA];exact⟨f2,f3,f8,trivial,by rw[hr,jW (by omega)]; rfl⟩
   .rintro F' H' ⟨g2,g3,g8,rfl,hr⟩
    simp -implicitDefEqProofs only[BA,A8,EJ,EU,EQ,AY,BB,AO,AQ,AL,BD,AX,AC,AA,AZ,AU,BH,BG,A7,BR,AB,C9,↓reduceIte,jA,jB,jC,enP,g8,wrap_succ (show i<9223372036854775807 by omega)];exact⟨n-1,by omega,i+1,by omega,g2,g3,rfl,trivial,by rw[hf,hr]; rfl⟩
   .rintro F' H' ⟨g4,rfl,hr⟩
    simp -implicitDefEqProofs only[CP,EE,FQ,CG,g4];exact⟨by rw[hf,hr]; rfl,t.hx⟩
  .have hi':¬i<m.crs.length:=by simpa using hc
   simp -implicitDefEqProofs only[BC,BA,BK,DJ,A8,EG,EU,ET,CG,AY,BB,AO,AQ,AL,BD,AX,AC,AA,AU,BM,A7,↓reduceIte,jB,jC];exact⟨by rw[hf,ZX (okC m) _ _ i (by omega) (by omega)],t.hx⟩
 .rintro F H' ⟨f4,rfl,hfp⟩
  simp -implicitDefEqProofs only[CP,EE,CG,f4];exact⟨by rw[hfp]; rfl,t.hx⟩
theorem AM9 (G:Nat->AV)(xs:List Int)(m:SM)(fid:FuncId)(caps:List AV)(p:Int->Bool)(h:Hp)(hl:xs.length<=1099511627776)
  (hf:∀r,PCall (En G) fid (.int .i64 r::caps) h (.bool (p r))) :
  PCall (En G) 204 [.sl m 1 (xs.map encI),.fn (.func fid) [] caps] h (.int .i64 (match xs.findIdx? p with|some i=>(i:Int)|none => -1)):=by
 refine acN Tryz.func204 rfl ?_;show awp _ _ _ _ _ (EN _ [.tmp 4] _);simp -implicitDefEqProofs only[BC,BP,BA,A8,AY,BB,AO,AQ,AL,BD,AX,AC,AA,AZ,AU,BH,BG,A7,DZ,AB,BF,↓reduceIte,jA,jB,jC,enP,JD,jI];refine DK (fun n F H=>∃k,n+k=xs.length∧F 0=.sl m 1 (xs.map encI)∧F 1=.fn (.func fid) [] caps∧F 7=.int .i64 xs.length∧F 8=.int .i64 (k:Nat)∧H=h∧(xs.take k).all (fun r => !p r)=true) xs.length ⟨0,by simp,rfl,rfl,rfl,rfl,rfl,rfl⟩ ?_;rintro n F H ⟨k,hk,f0,f1,f7,f8,rfl,hin⟩;simp -implicitDefEqProofs only[BC,BA,BI,A8,AY,BB,AO,AQ,AL,BD,AX,AC,AA,AZ,BR,AB,CZ,↓reduceIte,jB,jC,enP,f0,f1,f7,f8,jI];refine CV (fun hc=>?_) (fun hc=>?_)
 .have hc':k<xs.length:=by simpa using hc
  simp -implicitDefEqProofs only[BC,BP,BA,BO,A8,AY,BB,AO,AQ,AL,BD,AX,AC,AA,AZ,BG,A7,BQ,CE,CB,BU,AB,jD,jE,zU,List.cons_append,↓reduceIte,jA,jB,jC,enP,JF,f0,f1,f7,f8,DU hc',DF ag3 hc',encI0];refine(hf _).use ?_;simp -implicitDefEqProofs only[BI,A8,BB,AC,AA,AZ,↓reduceIte];refine CV (fun hb=>?_) (fun hb=>?_)
  .simp -implicitDefEqProofs only[BC,BA,BK,A8,CP,EE,FQ,CG,AY,BB,AO,AQ,AL,BD,AX,AC,AA,AZ,BG,A7,↓reduceIte,jA,jB,jC]
   refine⟨?_,trivial⟩
   rw[qV.2 ⟨hc',hb,fun j hj=>by
    rw[List.all_eq_true] at hin;have:=hin xs[j] (by rw[List.mem_take_iff_getElem]; exact⟨j,by omega,rfl⟩)
    simpa using this⟩]
  .simp -implicitDefEqProofs only[BA,BO,A8,EJ,EQ,AY,BB,AO,AQ,AL,BD,AX,AC,AA,AZ,AU,BH,BG,BR,AB,C9,↓reduceIte,jA,jB,jC,enP,f8,wrap_succ (show k<9223372036854775807 by omega)]
   refine⟨n-1,by omega,k+1,by omega,f0,f1,f7,rfl,trivial,?_⟩;rw[zL hc',List.all_append,hin];simp only[List.all_cons,List.all_nil,hb]; rfl
 .have hc':¬k<xs.length:=by simpa using hc
  simp -implicitDefEqProofs only[BC,BA,BK,DJ,A8,EG,EU,ET,CG,AY,BB,AO,AQ,AL,BD,AX,AC,AA,AU,BH,A7,↓reduceIte,jB,jC];refine⟨?_,trivial⟩;rw[jX (by omega)] at hin;rw[qW.2 (by simpa using hin)]
theorem AF5 (G:Nat->AV)(xs:List Int)(m:SM)(fid:FuncId)(caps:List AV)(p:Int->Bool)(h:Hp)(hl:xs.length<=1099511627776)
  (hf:∀r,PCall (En G) fid (.int .i64 r::caps) h (.bool (p r))) :
  PCall (En G) 155 [.sl m 1 (xs.map encI),.fn (.func fid) [] caps] h (.bool (xs.any p)):=by
 refine acN Tryz.func155 rfl ?_;show awp _ _ _ _ _ (EN _ [.tmp 4] _);simp -implicitDefEqProofs only[BC,BA,A8,AY,BB,AO,AQ,AL,BD,AX,AC,AA,AZ,AU,BZ,BM,BG,A7,CB,BU,BF,BN,jD,jE,jF,↓reduceIte,jA,jB,jC,enP];refine(AM9 G xs m fid caps p h hl hf).use ?_;simp -implicitDefEqProofs only[BK,A8,CG,AY,BB,AO,AQ,AL,BD,AX,AC,AA,AZ,AU,BH,A7,BR,AB,G6,↓reduceIte,jB,jC,enP];refine⟨?_,trivial⟩
 cases hx:xs.findIdx? p with
 | some i =>
   obtain⟨h1,h2,_⟩:=qV.1 hx;have:xs.any p=true:=List.any_eq_true.2 ⟨xs[i],by simp,h2⟩;simp [this]
 | none =>
   have:xs.any p=false:=by
    rw[qW] at hx;rw[qZ]; intro x hx2; simp [hx x hx2]
   simp [this]
theorem AYP {h:Hp}{b:Nat}{m:Mo}(hb:h[b]?=some (.live 2 [D5 m])):ED Tryz.prog h 22 (.ptr b 0 0)=some (.sl m.pm 6 (m.pts.map GL)):=by rw[DX WV hb (row:=D5 m) rfl,QJ]
theorem A1S {h:Hp}{b:Nat}{m:Mo}(hb:h[b]?=some (.live 2 [D5 m])):ED Tryz.prog h 23 (.ptr b 0 1)=some (.sl m.cm 3 (m.crs.map GG)):=by rw[DX ABH hb (row:=D5 m) rfl,UO]
theorem AM0 (G:Nat->AV)(m:Mo)(b:Nat)(p:Int)(h:Hp)(hb:h[b]?=some (.live 2 [D5 m])):PCall (En G) 224 [.int .i64 p,.ptr b 0 0] h (.bool (decide (p<0)||decide (p≥(m.pts.length:Int)))):=by
 refine acN Tryz.func224 rfl ?_;show awp _ _ _ _ _ (EN _ [.tmp 3] _);simp -implicitDefEqProofs only[BC,BA,A8,AY,BB,BL,BV,CO,AO,AQ,AL,BD,AX,AC,AA,AZ,AU,BH,BM,BG,A7,BR,AB,CZ,BF,↓reduceIte,jA,jB,jC,enP];cases ha:decide (p<0)
 .simp -implicitDefEqProofs only[Bool.false_or,BK,A8,CG,AY,BB,BL,BV,CO,ES,AO,AQ,AL,BD,AX,AC,AA,AZ,AU,BM,BG,A7,CQ,DW,BQ,BR,BJ,DZ,AB,G6,BF,BN,↓reduceIte,jA,jK,jB,jC,enP,QZ,IP,AYP hb,jI]
  exact⟨by simp,trivial⟩
 .simp -implicitDefEqProofs only[Bool.true_or,BK,A8,CG,AY,BB,BL,BV,CO,F7,AO,AQ,AL,BD,AX,AC,AA,EW,AZ,AU,BM,A7,CQ,DY,↓reduceIte,jA,jB,jC]
  exact⟨by simp,trivial⟩
theorem AUU {m:Mo}{l:List Int}(hh:Here m l):(l.any fun p=>decide (p<0)||decide (p≥(m.pts.length:Int)))=false:=by
 rw[qZ];intro p hp;have:=hh p hp;simp; omega
theorem ABP (G:Nat->AV)(m:Mo)(i:Nat)(hi:i<m.crs.length)(hg:CrGood m m.crs[i])(h:Hp):PCall (En G) 184 [.agg (D5 m),.int .i64 (i:Int)] h (.bool true):=by
 refine ACalls.pure0 rfl ?_;have hfour:=hg.four;refine acN Tryz.func184 rfl ?_;show awp _ _ _ _ _ (EN _ [.tmp 4] _);have d0:decide ((i:Int)<0)=false:=by simp
 have d1:decide ((i:Int)≥(m.crs.length:Int))=false:=by simp; omega
 simp -implicitDefEqProofs only[BC,BA,BO,BI,A8,DR,AY,BB,BL,BV,CO,ES,AO,AQ,AL,BD,AX,AC,AA,AZ,AU,BZ,BH,BM,BG,A7,CQ,DW,FU,BQ,BR,I7,BJ,CE,DZ,CB,BU,BX,AB,CZ,G6,BF,BN,jD,jE,jF,↓reduceIte,jA,jG,jB,jC,enP,WF,VQ,J8,KO,bxM,d0,DL ABH,UO,jI,d1,DU hi,DF KP hi,AB6];refine(AF5 G m.crs[i].pts m.crs[i].pm 224 _ _ _ (by omega) fun r=>AM0 G m _ r _ (CX _ _)).use ?_;simp -implicitDefEqProofs only[BK,A8,CG,AY,BB,AO,AQ,AL,BD,AX,AC,AA,AZ,A7,IG,AB,FI,↓reduceIte,jB,jC,AUU hg.here];exact⟨trivial,_,rfl⟩
theorem VC (G:Nat->AV)(m:Mo)(i:Nat)(hi:i<m.crs.length)(hg:CrGood m m.crs[i])(h:Hp):PCall (En G) 185 [.agg (D5 m),.int .i64 (i:Int)] h (.sl .any 1 ((szs m m.crs[i].pts).map II)):=by
 have hfour:=hg.four;have htwo:=hg.two;have hh:=hg.here
 have hp:PCall (En G) 185 [.agg (D5 m),.int .i64 (i:Int)] h (.sl (nm (szs m m.crs[i].pts)) 1 ((szs m m.crs[i].pts).map II)):=by
  refine N7 ARO ?_;refine acN Tryz.func185 rfl ?_;show awp _ _ _ _ _ (EN _ [.tmp 4] _);simp -implicitDefEqProofs only[BC,BP,BA,A8,AY,BB,AO,AQ,AL,BD,AX,AC,AA,AZ,AU,BH,IY,BG,A7,FU,BQ,BJ,CE,DZ,BX,AB,BF,BN,↓reduceIte,jA,jG,jB,jC,enP,WF,J8,JD,KO,bxM,DL ABH,UO,DU hi,DF KP hi,AB6,jI];refine DK (fun n F H=>∃k,n+k=m.crs[i].pts.length∧F 2=.ptr h.length 0 0∧F 13=.sl m.crs[i].pm 1 (m.crs[i].pts.map encI)∧F 14=.int .i64 m.crs[i].pts.length∧F 15=.int .i64 (k:Nat)∧H[h.length]?=some (.live 2 [D5 m])∧ext h H∧(∀b,isB (F 5) b->h.length<b)∧outG 1 II h (szs m (m.crs[i].pts.take k)) (F 5) H) m.crs[i].pts.length ⟨0,by simp,by simp -implicitDefEqProofs only[AA,↓reduceIte,jA],by simp -implicitDefEqProofs only[AA,↓reduceIte,jA],by simp -implicitDefEqProofs only[AA,↓reduceIte,jA],by simp -implicitDefEqProofs only[AA,↓reduceIte]; rfl,CX _ _,(ext.rfl' h).app _,fun b hb=>hb.elim,outG.nil _ _ _ _⟩ ?_;rintro n F H ⟨k,hk,f2,f13,f14,f15,hb,he,hlt,ho⟩;simp -implicitDefEqProofs only[BC,BA,BI,A8,AY,BB,AO,AQ,AL,BD,AX,AC,AA,AZ,BR,AB,CZ,↓reduceIte,jB,jC,enP,f14,f15];refine CV (fun hc=>?_) (fun hc=>?_)
  .have hk':k<m.crs[i].pts.length:=by simpa using hc
   obtain⟨s,ls⟩:=hh.ld hk' H;have hzl:(szs m (m.crs[i].pts.take k)).length<8388608:=by unfold szs; simp; omega
   obtain⟨v',H',ha,ho',hkeep,he',hle,hb'⟩:=ho.append UA sz3 YG WS (by omega) hzl he (JK m m.crs[i].pts[k]).length;simp -implicitDefEqProofs only[EZ,FW,BC,BP,BA,BO,A8,AY,BB,AO,AQ,AL,BD,AX,AC,AA,AZ,BG,A7,EP,BQ,BJ,CE,DZ,GR,BX,AB,↓reduceIte,jA,jK,jG,jB,jC,enP,S9,IP,RZ,I9,JF,f2,f13,f15,DU hk',DF ag3 hk',encI0,AYP hb,hh.ix hk',ls,jI,AE8];refine H9 (v:=v') (h:=H') (by rw[show [[AV.int .i64 ((JK m m.crs[i].pts[k]).length:Int)]]=[II (JK m m.crs[i].pts[k]).length] from rfl,ha]) ?_;simp -implicitDefEqProofs only[BA,A8,EJ,EQ,AY,BB,AO,AQ,AL,BD,AX,AC,AA,AZ,AU,BH,BG,A7,BR,AB,C9,↓reduceIte,jA,jB,jC,enP,f15,wrap_succ (show k<9223372036854775807 by omega)];refine⟨n-1,by omega,k+1,by omega,f2,f13,f14,rfl,hkeep _ _ hb (fun e=>by have:=hlt _ e; omega),he',fun b hbb=>?_,?_⟩
   .have:=hb' b hbb; have:=CJ hb; omega
   .rw[AJW m m.crs[i].pts k hk']; exact ho'
  .have hk':¬k<m.crs[i].pts.length:=by simpa using hc
   rw[jX (by omega)] at ho;simp -implicitDefEqProofs only[BC,BA,BK,DJ,A8,EG,EU,ET,CG,AY,BB,AO,AQ,AL,BD,AX,AC,AA,AZ,BG,A7,↓reduceIte,jA,jB,jC];exact⟨he,ho⟩
 have hnm:nm (szs m m.crs[i].pts)=SM.any:=by
  have:=LJ m m.crs[i].pts
  cases hx:szs m m.crs[i].pts with
  | nil=>rw[hx] at this; simp at this; omega
  | cons a l=>rfl
 rw[hnm] at hp;exact hp
theorem ABS (G:Nat->AV)(m:Mo)(i:Nat)(hi:i<m.crs.length)(hg:CrGood m m.crs[i])(hf:Full m)(h:Hp):PCall (En G) 139 [.agg (D5 m),.int .i64 (i:Int)] h (.int .i64 (GK (szs m m.crs[i].pts))):=by
 refine ACalls.pure0 rfl ?_;have hfour:=hg.four;have hs:=hf.szs hg.here;have hsl:=LJ m m.crs[i].pts;have hx:∃x,h++[ABlk.live 2 [D5 m]]=h++x:=⟨_,rfl⟩;refine acN Tryz.func139 rfl ?_;show awp _ _ _ _ _ (EN _ [.tmp 4] _);simp -implicitDefEqProofs only[BC,BA,A8,AY,BB,AO,AQ,AL,BD,AX,AC,AA,AZ,AU,BZ,BH,BG,A7,FU,BQ,CB,BU,BX,AB,BF,BN,jD,jE,jF,↓reduceIte,jA,jB,jC,enP,bxM,ldM (CX h (.live 2 [D5 m]))];refine(ABP G m i hi hg _).use ?_;simp -implicitDefEqProofs only[BC,BA,BO,BI,A8,DR,AY,BB,AO,AQ,AL,BD,AX,AC,AA,AZ,AU,BZ,BH,BG,A7,BQ,IG,CB,BU,AB,FI,BF,BN,jD,jE,jF,↓reduceIte,jA,jB,jR,jC,enP,ldM (CX h (.live 2 [D5 m]))];refine(VC G m i hi hg _).use ?_;simp -implicitDefEqProofs only[BP,A8,AY,BB,AO,AQ,AL,BD,AX,AC,AA,AZ,AU,BH,BG,DZ,AB,↓reduceIte,jB,jC,enP,JD,jI]
 generalize szs m m.crs[i].pts=l at hs hsl|-
 have hp:∀k,GK (l.take k)<=16777216:=fun k=>by
  have:=AKN (l.take k) 4 (fun n hn=>(hs n (List.mem_of_mem_take hn)).2) (by rw[List.length_take]; omega);simpa using this
 refine DK (fun n F H=>∃k,n+k=l.length∧F 5=.int .i64 (GK (l.take k))∧F 14=.sl .any 1 (l.map II)∧F 15=.int .i64 l.length∧F 16=.int .i64 (k:Nat)∧H=h++[ABlk.live 2 [D5 m]]) l.length ⟨0,by simp,by simp -implicitDefEqProofs only[AA,↓reduceIte,jA]; rfl,by simp -implicitDefEqProofs only[AA,↓reduceIte,jA],by simp -implicitDefEqProofs only[AA,↓reduceIte,jA],by simp -implicitDefEqProofs only[AA,↓reduceIte]; rfl,rfl⟩ ?_;rintro n F H ⟨k,hk,f5,f14,f15,f16,rfl⟩;simp -implicitDefEqProofs only[BC,BA,BI,A8,AY,BB,AO,AQ,AL,BD,AX,AC,AA,AZ,BR,AB,CZ,↓reduceIte,jB,jC,enP,f15,f16];refine CV (fun hc=>?_) (fun hc=>?_)
 .have hk':k<l.length:=by simpa using hc
  have h1:=hp (k+1);rw[RX l k hk'] at h1
  have hw:IntKind.i64.wrap ((GK (l.take k):Int)*(l[k]:Int))=((GK (l.take (k+1)):Nat):Int):=by
   rw[RX l k hk',<-Int.natCast_mul,MC (by omega)]
  simp -implicitDefEqProofs only[BC,BP,BA,BO,A8,EJ,EQ,AY,BB,AO,AQ,AL,BD,AX,AC,AA,AZ,AU,BH,BG,A7,BQ,BR,CE,AB,C9,QB,↓reduceIte,jA,jB,jC,enP,JF,f5,f14,f16,DU hk',DF ag3 hk',encN0,hw,wrap_succ (show k<9223372036854775807 by omega)];exact⟨n-1,by omega,k+1,by omega,rfl,trivial,f15,rfl,trivial⟩
 .have hk':¬k<l.length:=by simpa using hc
  rw[jX (by omega)] at f5;simp -implicitDefEqProofs only[BC,BA,BK,DJ,A8,EG,EU,ET,CG,AY,BB,AO,AQ,AL,BD,AX,AC,AA,AZ,BG,A7,↓reduceIte,jA,jB,jC,f5];exact⟨trivial,hx⟩
def ARL:List Nat->List Int->Int->Int
 | n::ns,x::xs,z=>ARL ns xs (IntKind.i64.wrap (IntKind.i64.wrap (z*(n:Int))+x))
 | _,_,z=>z
theorem AUR (ns:List Nat)(z:Int):ARL ns [] z=z:=by cases ns<;>rfl
theorem AK3:∀ {ns:List Nat} {l:List Int},MS ns l=true->∀(k:Nat) (hk:k<l.length) (hp:k<ns.length),0<=l[k]∧l[k]<(ns[k]:Int)
 | n::ns,b::bs,h,k,hk,hp=>by
   simp only[MS,jV,decide_eq_true_eq] at h
   cases k with
   | zero=>exact h.1
   | succ k=>exact AK3 (ns:=ns) h.2 k (by simpa using hk) (by simpa using hp)
 | [],b::bs,h,k,hk,hp=>by simp at hp
 | _,[],h,k,hk,hp=>by simp at hk
theorem AID (G:Nat->AV)(m:Mo)(i:Nat)(hi:i<m.crs.length)(hg:CrGood m m.crs[i])(l:List Int)(s:SM)(hin:MS (szs m m.crs[i].pts) l=true)(h:Hp):PCall (En G) 186 [.agg (D5 m),.int .i64 (i:Int),.sl s 1 (l.map encI)] h (.tup [.int .i64 (ARL (szs m m.crs[i].pts) l 0),.bool true]):=by
 have hfour:=hg.four;have hsl:=LJ m m.crs[i].pts;have hlen:=QI hin;refine ACalls.pure 2 (R:=fun v H=>v=.tup [.int .i64 (ARL (szs m m.crs[i].pts) l 0),.bool true]∧∃x,H=h++x) ?_ (fun v h' ⟨e,x⟩=>⟨x,by subst e; rfl⟩);have hx:∃x,h++[ABlk.live 2 [D5 m]]=h++x:=⟨_,rfl⟩;refine acN Tryz.func186 rfl ?_;show awp _ _ _ _ _ (EN _ [.tmp 6,.tmp 7] _);simp -implicitDefEqProofs only[BC,BA,A8,AY,BB,AO,AQ,AL,BD,AX,AC,AA,AZ,AU,BZ,BH,BM,BG,A7,FU,BQ,CB,BU,BX,AB,BF,BN,jD,jE,jF,↓reduceIte,jA,jB,jC,enP,bxM,ldM (CX h (.live 2 [D5 m]))];refine(ABP G m i hi hg _).use ?_;simp -implicitDefEqProofs only[BC,BA,BO,BI,A8,DR,AY,BB,AO,AQ,AL,BD,AX,AC,AA,AZ,BZ,BG,BQ,IG,CB,BU,AB,FI,BF,BN,jD,jE,jF,↓reduceIte,jA,jB,jR,jC,enP,ldM (CX h (.live 2 [D5 m]))];refine(VC G m i hi hg _).use ?_
 generalize szs m m.crs[i].pts=ns at hin hsl hlen|-
 have hne:((l.length:Int) != (ns.length:Int))=false:=by rw[hlen]; simp
 simp -implicitDefEqProofs only[BC,BP,BA,BO,BI,A8,DR,AY,BB,AO,AQ,AL,BD,AX,AC,AA,AZ,AU,BH,BG,A7,BR,DZ,AB,EK,BF,BN,↓reduceIte,jA,jB,jC,enP,JD,jI,hne];refine DK (fun n F H=>∃k,n+k=l.length∧F 8=.sl .any 1 (ns.map II)∧(∃z,F 9=.int .i64 z∧ARL ns l 0=ARL (ns.drop k) (l.drop k) z)∧F 24=.sl s 1 (l.map encI)∧F 25=.int .i64 l.length∧F 26=.int .i64 (k:Nat)∧H=h++[ABlk.live 2 [D5 m]]) l.length ⟨0,by simp,by simp -implicitDefEqProofs only[AA,↓reduceIte,jA],⟨0,rfl,rfl⟩,by simp -implicitDefEqProofs only[AA,↓reduceIte,jA],by simp -implicitDefEqProofs only[AA,↓reduceIte,jA],by simp -implicitDefEqProofs only[AA,↓reduceIte]; rfl,rfl⟩ ?_;rintro n F H ⟨k,hk,f8,⟨z,f9,hz⟩,f24,f25,f26,rfl⟩;simp -implicitDefEqProofs only[BC,BA,BI,A8,AY,BB,AO,AQ,AL,BD,AX,AC,AA,AZ,BR,AB,CZ,↓reduceIte,jB,jC,enP,f25,f26];refine CV (fun hc=>?_) (fun hc=>?_)
 .have hk':k<l.length:=by simpa using hc
  have hkn:k<ns.length:=by omega
  obtain⟨h0,h1⟩:=AK3 hin k hk' hkn;have d0:decide (l[k]<0)=false:=by simp; omega
  have d1:decide (l[k]≥(ns[k]:Int))=false:=by simp; omega
  rw[zK hk',zK hkn] at hz;simp -implicitDefEqProofs only[BC,BP,BA,BO,BI,A8,EJ,EQ,DR,AY,BB,BL,BV,CO,ES,AO,AQ,AL,BD,AX,AC,AA,AZ,AU,BH,BM,BG,A7,CQ,DW,BQ,BR,CE,AB,C9,QB,CZ,G6,↓reduceIte,jA,jB,jC,enP,JF,f8,f9,f24,f26,DU hk',DF ag3 hk',encI0,d0,DU hkn,DF ag3 hkn,encN0,d1,wrap_succ (show k<9223372036854775807 by omega)];exact⟨n-1,by omega,k+1,by omega,trivial,⟨_,rfl,hz⟩,trivial,f25,rfl,trivial⟩
 .have hk':¬k<l.length:=by simpa using hc
  rw[jW (show l.length<=k by omega),AUR] at hz;simp -implicitDefEqProofs only[BC,BA,BK,DJ,A8,EG,EU,ET,LC,AY,BB,AO,AQ,AL,BD,AX,AC,AA,AZ,AU,BM,BG,A7,↓reduceIte,jA,jB,jC,f9,hz];exact⟨trivial,hx⟩
theorem A5W {H:Hp}{o n:Nat}{rows ys:List (List AV)}{s:SM}(ho:H[o]?=some (.live 1 rows))(hr:rows.length=n)(hy:ys.length=n):AHM Tryz.prog H 57 (.own o 0 n) (.sl s 1 ys)=some (.int .i64 (n:Int),H.set o (.live 1 ys)):=by
 have hrs:TD rows 0 ys=ys:=by
  unfold TD;rw[zQ,zU,jW (by omega),jF]
 have h1:min (n:Int) (n:Int)=(n:Int):=by omega
 unfold AHM;simp only[UA,sz3,J3,ho];rw[if_pos ⟨trivial,.inl trivial,by omega⟩];simp [hy,hrs,jX (Nat.le_of_eq hy)]
theorem AQ6 {E:Env}{f:FuncId}{args:List AV}{h:Hp}{ys:List Nat}{b:Bool}(hc:ACalls E f args h fun v H=>ext h H∧∃o,h.length<=o∧v=.tup [.own o 0 ys.length,.bool b]∧H[o]?=some (.live 1 (ys.map II))) :
  PCall E f args h (.tup [.sl .any 1 (ys.map II),.bool b]):=by
 refine ACalls.pure 3 hc ?_;rintro v H ⟨hex,o,ho1,rfl,ho⟩;refine⟨hex,?_⟩;show AV.tup [IX h.length H 2 (.own o 0 ys.length),IX h.length H 2 (.bool b)]=_;rw[ZV ARO ho1 ho];rfl
theorem AHP (G:Nat->AV)(m:Mo)(i:Nat)(hi:i<m.crs.length)(hg:CrGood m m.crs[i])(hf:Full m)(K:Nat)(hK:K<GK (szs m m.crs[i].pts))(h:Hp):PCall (En G) 140 [.agg (D5 m),.int .i64 (i:Int),.int .i64 (K:Int)] h (.tup [.sl .any 1 ((NG (szs m m.crs[i].pts) K).map encI),.bool true]):=by
 have hprod:=hg.prod;have hs:=hf.szs hg.here;have hsl:=LJ m m.crs[i].pts;have hfour:=hg.four;show PCall (En G) 140 _ h (.tup [.sl .any 1 (((tupF (szs m m.crs[i].pts) K).1.map fun n:Nat=>(n:Int)).map encI),.bool true]);rw[<-AI1];refine AQ6 ?_;rw[QD];refine acN Tryz.func140 rfl ?_;show awp _ _ _ _ _ (EN _ [.tmp 6,.tmp 7] _);have d0:decide ((K:Int)<0)=false:=by simp
 simp -implicitDefEqProofs only[BC,BA,A8,AY,BB,BL,BV,CO,ES,AO,AQ,AL,BD,AX,AC,AA,AZ,AU,BZ,BH,BM,IY,BG,A7,FU,BQ,BR,CB,BU,BX,AB,CZ,BF,BN,jD,jE,jF,↓reduceIte,jA,jB,jC,enP,bxM,d0,ldM (CX h (.live 2 [D5 m]))];refine(ABS G m i hi hg hf _).use ?_;have d1:decide ((K:Int)≥((GK (szs m m.crs[i].pts):Nat):Int))=false:=by simp; omega
 simp -implicitDefEqProofs only[BC,BA,BO,BI,A8,DR,AY,BB,BL,BV,CO,ES,AO,AQ,AL,BD,AX,AC,AA,AZ,AU,BZ,BM,BG,CQ,DW,BQ,BR,CB,BU,AB,G6,BF,BN,jD,jE,jF,↓reduceIte,jA,jB,jC,enP,d1,ldM (CX h (.live 2 [D5 m]))];refine(VC G m i hi hg _).use ?_;clear d1
 generalize szs m m.crs[i].pts=ns at hs hsl hK hprod|-
 have hlt:h.length<=(h++[ABlk.live 2 [D5 m]]).length:=by simp
 have he0:ext h (h++[ABlk.live 2 [D5 m]]):=(ext.rfl' h).app _
 generalize h++[ABlk.live 2 [D5 m]]=H at hlt he0|-
 have hcp:=A5W (s:=.any) (ys:=ns.map II) (CX H (.live 1 ((List.replicate ns.length 0).map II))) (n:=ns.length) (by simp) (by simp);rw[ACW] at hcp;simp -implicitDefEqProofs only[BC,BP,BA,A8,AY,BB,AO,AQ,AL,BD,AX,AC,AA,AZ,AU,BH,BG,A7,BR,JH,DZ,A01,BX,AB,J9,↓reduceIte,jA,jB,jC,enP,JD,jI,A1Q H ns.length (by omega),hcp];rw[wrap_i64 (n:=(ns.length:Int)-1) (by omega) (by omega)];refine DK (fun n F H'=>∃j,n=j∧j<=ns.length∧F 8=.sl .any 1 (ns.map II)∧F 9=.own H.length 0 ns.length∧F 10=.int .i64 ((j:Int)-1)∧F 2=.int .i64 ((tupF (ns.drop j) K).2:Nat)∧ext h H'∧H'[H.length]?=some (.live 1 ((ns.take j++(tupF (ns.drop j) K).1).map II))) ns.length ⟨ns.length,rfl,jL _,by simp -implicitDefEqProofs only[AA,↓reduceIte,jA],by simp -implicitDefEqProofs only[AA,↓reduceIte,jA],by simp -implicitDefEqProofs only[AA,↓reduceIte],by simp -implicitDefEqProofs only[AA,BF,BN,↓reduceIte,jA]; rw[jW (jL _)]; rfl,he0.app _,?_⟩ ?_
 .rw[jW (jL _),jX (jL _)]
  simp only[tupF,jF];exact CX _ _
 rintro n F H' ⟨j,rfl,hj,f8,f9,f10,f2,he,ho⟩;simp -implicitDefEqProofs only[BC,BA,BI,A8,AY,BB,AO,AQ,AL,BD,AX,AC,AA,AZ,AU,BH,BG,BR,AB,G6,↓reduceIte,jB,jC,enP,f10]
 cases n with
 | zero =>
   have:decide ((((0:Nat):Int)-1)≥0)=false:=by decide
   simp -implicitDefEqProofs only[BC,BA,BK,DJ,A8,EG,EU,ET,LC,DR,AY,BB,AO,AQ,AL,BD,AX,AC,AA,AZ,AU,BM,BG,A7,↓reduceIte,jA,jB,jC,this,f9];rw[zQ,zU,List.drop_zero] at ho;exact⟨he,H.length,hlt,rfl,ho⟩
 | succ j =>
   have hd:decide ((j:Int)≥0)=true:=by simp
   have hj':j<ns.length:=by omega
   have h1:=(hs _ (jQ hj')).1;have e1:(((j+1:Nat):Int)-1)=(j:Int):=by omega
   have hst:=tup_step (K:=K) hj';have hle:=AHQ (ns.drop (j+1)) K;generalize hr:(tupF (ns.drop (j+1)) K)=r at ho f2 hst hle
   have hrow:∃v,((ns.take (j+1)++r.1).map II)[j]?=some [v]:=by
    refine⟨.int .i64 ns[j],?_⟩;rw[List.getElem?_map,List.getElem?_append_left (by simp; omega),List.getElem?_take_of_lt (by omega),jS hj'];rfl
   have hset:=AJ6 (f:=II) (pre:=ns) (out:=r.1) (j:=j) (x:=r.2%ns[j]) hj';simp -implicitDefEqProofs only[BC,BP,BA,BO,A8,EJ,EQ,DI,AY,BB,AO,AQ,AL,BD,AX,AC,EM,AA,AZ,AU,BH,BG,A7,BQ,D6,BR,CE,AB,CY,J9,↓reduceIte,jA,jG,jB,jC,enP,JF,jP,hd,f2,f8,f9,f10,e1,DU hj',DF ag3 hj',encN0,LZ ho hj',AHX _ _ h1,ACX _ _ h1 (show r.2<=9223372036854775807 by omega),ATD ho hrow,hset];refine⟨j,by omega,j,rfl,by omega,trivial,trivial,?_,?_,he.set hlt _,?_⟩
   .rw[wrap_i64 (by omega) (by omega)]
   .rw[hst]
   .rw[hst]; exact EC ho
theorem ALI (G:Nat->AV)(l:List Int)(s:SM)(b:Nat)(r:Is)(h:Hp)(hb:h[b]?=some (.live 1 [[.sl s 1 (l.map encI)]]))(hl:l.length<=1099511627776) :
  PCall (En G) 187 [.sl r.m 1 (r.l.map encI),.ptr b 0 0] h (.bool (eqL r.l l)):=by
 refine acN Tryz.func187 rfl ?_;show awp _ _ _ _ _ (EN _ [.tmp 3] _);simp -implicitDefEqProofs only[BC,BA,A8,AY,BB,AO,AQ,AL,BD,AX,AC,AA,AZ,AU,BZ,BM,BG,A7,BQ,CB,BU,AB,BF,BN,jD,jE,jF,↓reduceIte,jA,jB,jC,enP,JS KP hb];refine(AEV G r.l l r.m s h hl).use ?_;simp -implicitDefEqProofs only[BK,A8,CG,AY,BB,AO,AQ,AL,BD,AX,AC,AA,AZ,A7,↓reduceIte,jB,jC];exact⟨trivial,trivial⟩
theorem AF2 (G:Nat->AV)(m:Mo)(i:Nat)(hi:i<m.crs.length)(hg:CrGood m m.crs[i])(l:List Int)(s:SM)(hin:MS (szs m m.crs[i].pts) l=true)(h:Hp):PCall (En G) 141 [.agg (D5 m),.int .i64 (i:Int),.sl s 1 (l.map encI)] h (.bool (!Q3 m m.crs[i] l)):=by
 refine ACalls.pure0 rfl ?_;have hh:=hg.here;have hfour:=hg.four;have hnum:=hg.num;have hlen:l.length=m.crs[i].pts.length:=by have:=QI hin; rw[LJ] at this; omega
 refine acN Tryz.func141 rfl ?_;show awp _ _ _ _ _ (EN _ [.tmp 6] _);have gm:(h++[ABlk.live 2 [D5 m]]++[ABlk.live 1 [[.sl s 1 (l.map encI)]]])[h.length]?=some (.live 2 [D5 m]):=CU (CX _ _);have gl:=CX (h++[ABlk.live 2 [D5 m]]) (.live 1 [[.sl s 1 (l.map encI)]]);have hx:∃x,h++[ABlk.live 2 [D5 m]]++[ABlk.live 1 [[.sl s 1 (l.map encI)]]]=h++x:=⟨_,zA _ _ _⟩;simp -implicitDefEqProofs only[AN0,BC,BA,A8,AY,BB,AO,AQ,AL,BD,AX,AC,AA,AZ,AU,BM,A7,FU,BQ,BX,BF,BN,↓reduceIte,jA,jB,jC,enP,bxM]
 generalize h++[ABlk.live 2 [D5 m]]++[ABlk.live 1 [[.sl s 1 (l.map encI)]]]=H at gm gl hx|-
 generalize (h++[ABlk.live 2 [D5 m]]).length=lb at gl|-
 simp -implicitDefEqProofs only[AY,AO,AQ,AL,BD,AX,AC,AA,AZ,BZ,BG,BQ,CB,BU,AB,BF,BN,jD,jE,jF,↓reduceIte,jA,jB,jC,enP,ldM gm,JS KP gl];refine(AID G m i hi hg l s hin _).use ?_;simp -implicitDefEqProofs only[zB,zG,BC,BP,BA,BO,BI,A8,DR,AY,BB,AO,AQ,AL,BD,AX,AC,AA,AZ,AU,BH,BG,A7,BQ,IG,BJ,CE,FK,GN,DZ,AB,FI,BF,BN,↓reduceIte,jA,jG,jB,jR,jC,enP,WF,J8,JD,KO,A1S gm,DU hi,DF KP hi,AB6,jI];have hkb:=WE m m.crs[i].pts l;refine GM 0 (fun F H'=>F 1=.int .i64 (i:Nat)∧F 3=.ptr h.length 0 0∧F 5=.ptr lb 0 0∧H'=H∧OG m m.crs[i].pts l=true) (fun F H'=>F 6=.bool true∧H'=H∧OG m m.crs[i].pts l=false) ?_ ?_ ?_
 .refine DK (fun n F H'=>∃k,n+k=l.length∧F 1=.int .i64 (i:Nat)∧F 3=.ptr h.length 0 0∧F 5=.ptr lb 0 0∧F 25=.sl m.crs[i].pm 1 (m.crs[i].pts.map encI)∧F 26=.int .i64 m.crs[i].pts.length∧F 27=.int .i64 (k:Nat)∧H'=H∧OG m m.crs[i].pts l=OG m (m.crs[i].pts.drop k) (l.drop k)) l.length ⟨0,by simp,by simp -implicitDefEqProofs only[AA,BF,BN,↓reduceIte,jA],by simp -implicitDefEqProofs only[AA,↓reduceIte,jA],by simp -implicitDefEqProofs only[AA,↓reduceIte,jA],by simp -implicitDefEqProofs only[AA,↓reduceIte,jA],by simp -implicitDefEqProofs only[AA,↓reduceIte,jA],by simp -implicitDefEqProofs only[AA,↓reduceIte]; rfl,rfl,rfl⟩ ?_
  rintro n F H' ⟨k,hk,f1,f3,f5,f25,f26,f27,rfl,hk0⟩;simp -implicitDefEqProofs only[BC,BA,BI,A8,AY,BB,AO,AQ,AL,BD,AX,AC,AA,AZ,BR,AB,CZ,↓reduceIte,jB,jC,enP,f26,f27];refine CV (fun hc=>?_) (fun hc=>?_)
  .have hkc:k<m.crs[i].pts.length:=by simpa using hc
   have hk':k<l.length:=by omega
   rw[hkb k hkc hk'] at hk0;obtain⟨h0,h1⟩:=AC2 hin k hk' hkc;obtain⟨s2,ls⟩:=hh.ld hkc H';have hlt:l[k].toNat<(JK m m.crs[i].pts[k]).length:=by omega
   simp -implicitDefEqProofs only[BC,BP,BA,BO,A8,AY,BB,AO,AQ,AL,BD,AX,AC,AA,AZ,BG,A7,BQ,CE,AB,↓reduceIte,jA,jB,jC,enP,JF,f25,f27,DU hkc,DF ag3 hkc,encI0];refine E8 (by kernel_rfl) ?_;simp -implicitDefEqProofs only[F6,EH,DT,FB,EI,FT,FH,I4,D9,EF,BI,A8,AO,AA,AZ,AU,BH,BQ,BR,BJ,CE,AB,EK,↓reduceIte,jA,jM,jK,jG,jB,enP,S9,IP,YX,I9,JF,MR,bne,f3,f5,f27,AYP gm,hh.ix hkc,ls,JS KP gl,DU hk',DF ag3 hk',encI0,AN1 h0 h1,DF ag3 hlt,UR,AFC h0 h1];cases hkd:(YW m m.crs[i].pts[k] l[k]==0)
   .simp -implicitDefEqProofs only[BC,BA,BK,A8,CP,EE,NM,FQ,DI,AY,BB,AO,AQ,AL,BD,AX,AC,AA,AU,BM,A7,↓reduceIte,jB,jC]
    exact⟨trivial,trivial,by rw[hk0,hkd]; rfl⟩
   .simp -implicitDefEqProofs only[BA,BO,A8,EJ,EQ,DR,AY,BB,AO,AQ,AL,BD,AX,AC,AA,AZ,AU,BH,BG,BR,AB,C9,↓reduceIte,jA,jB,jR,jC,enP,f27,wrap_succ (show k<9223372036854775807 by omega)]
    exact⟨n-1,by omega,k+1,by omega,f1,f3,f5,f25,f26,rfl,trivial,by rw[hk0,hkd]; rfl⟩
  .have hk':¬k<m.crs[i].pts.length:=by simpa using hc
   simp -implicitDefEqProofs only[DJ,EG,KC,ET,AA,↓reduceIte,jA];exact⟨f1,f3,f5,trivial,by rw[hk0,jW (show l.length<=k by omega),YV]⟩
 .rintro F H' ⟨f1,f3,f5,rfl,hk⟩
  simp -implicitDefEqProofs only[BC,BA,A8,EU,AY,AO,AQ,AL,BD,AX,AC,AA,AZ,BZ,BG,BQ,I7,BJ,CE,CB,BU,AB,jD,jE,jF,↓reduceIte,jA,jG,jB,jC,enP,WF,J8,U8,f1,f3,f5,A1S gm,DU hi,DF Q7 hi,AP5];refine(SL G m.crs[i].excl m.crs[i].xm 187 _ (fun x=>eqL x.l l) _ (by omega) fun r=>ALI G l s _ r _ gl (by omega)).use ?_;simp -implicitDefEqProofs only[BK,A8,CG,AY,BB,AO,AQ,AL,BD,AX,AC,AA,AZ,A7,↓reduceIte,jB,jC];exact⟨by unfold Q3; rw[hk]; simp,hx⟩
 .rintro F H' ⟨f6,rfl,hk⟩
  simp -implicitDefEqProofs only[CP,EE,CG,f6];exact⟨by unfold Q3; rw[hk]; rfl,hx⟩
structure Gl where
 cross:Bool
 idx:Nat
 bm:SM
 bins:List Int
 at_:Nat
def KW (g:Gl):List AV:=[.bool g.cross,.int .i64 (g.idx:Int),.sl g.bm 1 (g.bins.map encI),.int .i64 (g.at_:Int)]
def UQ (g:Gl):List AV:=[.bool g.cross,.int .i64 (g.idx:Int),.sl g.bm 1 (g.bins.map encI)]
theorem SI (g:Gl):(KW g).length=4:=rfl
theorem A5U:Frz KW:=fun _ _ _ _=>⟨rfl,rfl⟩
theorem A5T:Frz UQ:=fun _ _ _ _=>⟨rfl,rfl⟩
def mkP (i k:Nat):Gl:=⟨false,i,.full,[(k:Int)],k⟩
def mkC (m:Mo)(i k:Nat)(c:Cr):Gl:=⟨true,i,.any,NG (szs m c.pts) k,k⟩
def gPk (i:Nat)(p:Pt):Nat->List Gl
 | 0=>[]
 | k+1=>gPk i p k++(if(kindOf p k==0)=true then [mkP i k] else [])
def gP (m:Mo):Nat->List Gl
 | 0=>[]
 | i+1=>gP m i++(match m.pts[i]? with|some p=>gPk i p p.bins.length|none=>[])
def gCk (m:Mo)(i:Nat)(c:Cr):Nat->List Gl
 | 0=>[]
 | k+1=>gCk m i c k++(if Q3 m c (NG (szs m c.pts) k)=true then [mkC m i k c] else [])
def gC (m:Mo):Nat->List Gl
 | 0=>gP m m.pts.length
 | i+1=>gC m i++(match m.crs[i]? with|some c=>gCk m i c (GK (szs m c.pts))|none=>[])
def goals (m:Mo):List Gl:=gC m m.crs.length
theorem AIH (i:Nat)(p:Pt):∀k,(gPk i p k).length<=k
 | 0=>jL _
 | k+1=>by
   have:=AIH i p k;simp only[gPk,zW];split<;>simp<;>omega
theorem ANB {m:Mo}(hf:Full m):∀i,(gP m i).length<=64*i
 | 0=>jL _
 | i+1=>by
   have h1:=ANB hf i;simp only[gP,zW];split
   .rename_i p hp
    have h2:=AIH i p p.bins.length;have h3:=(hf p (zZ hp)).2;omega
   .simp; omega
theorem AII (m:Mo)(i:Nat)(c:Cr):∀k,(gCk m i c k).length<=k
 | 0=>jL _
 | k+1=>by
   have:=AII m i c k;simp only[gCk,zW];split<;>simp<;>omega
theorem ANC {m:Mo}(hg:Good m):∀i,(gC m i).length<=64*m.pts.length+256*i
 | 0=>ANB hg.full _
 | i+1=>by
   have h1:=ANC hg i;simp only[gC,zW];split
   .rename_i c hc
    have h2:=AII m i c (GK (szs m c.pts));have h3:=(hg.crs c (zZ hc)).prod;omega
   .simp; omega
theorem AA1 {m:Mo}(hg:Good m):(goals m).length<=8192:=by
 have h1:=ANC hg m.crs.length;have h2:=hg.num;unfold goals; omega
theorem A4M (i:Int)(xs:List (List AV)):LQ Tryz.prog 106 [(1,.int .i64 i),(2,.sl .full 1 xs)]=some (.agg [.bool false,.int .i64 i,.sl .full 1 xs]):=by kernel_rfl
theorem A4O (i:Int)(xs:List (List AV)):LQ Tryz.prog 106 [(0,.bool true),(1,.int .i64 i),(2,.sl .any 1 xs)]=some (.agg [.bool true,.int .i64 i,.sl .any 1 xs]):=by kernel_rfl
theorem A4K (i k:Int)(xs:List (List AV)):LQ Tryz.prog 108 [(0,.agg [.bool false,.int .i64 i,.sl .full 1 xs]),(1,.int .i64 k)]=some (.agg [.bool false,.int .i64 i,.sl .full 1 xs,.int .i64 k]):=by kernel_rfl
theorem A4L (i k:Int)(xs:List (List AV)):LQ Tryz.prog 108 [(0,.agg [.bool true,.int .i64 i,.sl .any 1 xs]),(1,.int .i64 k)]=some (.agg [.bool true,.int .i64 i,.sl .any 1 xs,.int .i64 k]):=by kernel_rfl
theorem A4F (h:Hp)(g:Gl)(hf:(KW g).all AV.frozen=true):FO Tryz.prog false h 101 1 [(0,.agg (KW g))]=some (.sl .full 4 [KW g],h):=by
 have h1:Tryz.prog.underlying 101=some (.slice 108):=AS5;unfold FO;simp only[h1,ABQ,ASV];have h2:V6 4 0 [(0,AV.agg (KW g))]=some [KW g]:=rfl;simp [h2,hf]
theorem Y0 (G:Nat->AV)(m:Mo)(hm:MoOk m)(hg:Good m)(h:Hp):PCall (En G) 80 [.agg (D5 m)] h (.sl (nm (goals m)) 4 ((goals m).map KW)):=by
 refine N7 A5U ?_;have hm1:=hm.np;have hm2:=hm.nc;have hnum:=hg.num;refine acN Tryz.func80 rfl ?_;show awp _ _ _ _ _ (EN _ [.tmp 2] _);simp -implicitDefEqProofs only[BC,BP,BA,A8,AY,BB,AO,AQ,AL,BD,AX,AC,AA,AZ,AU,BH,IY,BG,A7,FU,BQ,BJ,DZ,BX,AB,BF,↓reduceIte,jA,jK,jB,jC,enP,QZ,IP,bxM,AYP (CX h (.live 2 [D5 m])),jI];refine GM 0 (fun F H=>F 1=.ptr h.length 0 0∧H[h.length]?=some (.live 2 [D5 m])∧ext h H∧(∀b,isB (F 3) b->h.length<b)∧outG 4 KW h (gC m 0) (F 3) H) (fun _ _=>False) ?_ ?_ (fun _ _ hh=>hh.elim)
 .refine DK (fun n F H=>∃i,n+i=m.pts.length∧F 1=.ptr h.length 0 0∧F 13=.sl m.pm 6 (m.pts.map GL)∧F 14=.int .i64 m.pts.length∧F 15=.int .i64 (i:Nat)∧H[h.length]?=some (.live 2 [D5 m])∧ext h H∧(∀b,isB (F 3) b->h.length<b)∧outG 4 KW h (gP m i) (F 3) H) m.pts.length ⟨0,by simp,by simp -implicitDefEqProofs only[AA,↓reduceIte,jA],by simp -implicitDefEqProofs only[AA,↓reduceIte,jA],by simp -implicitDefEqProofs only[AA,↓reduceIte,jA],by simp -implicitDefEqProofs only[AA,↓reduceIte]; rfl,CX _ _,(ext.rfl' h).app _,fun b hb=>hb.elim,outG.nil _ _ _ _⟩ ?_
  rintro n F H ⟨i,hi,f1,f13,f14,f15,gm,he,hlt,ho⟩;simp -implicitDefEqProofs only[BC,BA,BI,A8,AY,BB,AO,AQ,AL,BD,AX,AC,AA,AZ,BR,AB,CZ,↓reduceIte,jB,jC,enP,f14,f15];refine CV (fun hc=>?_) (fun hc=>?_)
  .have hi':i<m.pts.length:=by simpa using hc
   have hgp:gP m (i+1)=gP m i++gPk i m.pts[i] m.pts[i].bins.length:=by
    simp only[gP]; rw[jS hi']
   have h64:=(hg.full _ (jQ hi')).2;have hpl:=ANB hg.full i;simp -implicitDefEqProofs only[BC,BP,BA,BO,A8,AY,BB,AO,AQ,AL,BD,AX,AC,EM,AA,AZ,AU,BH,BG,A7,EX,BQ,D6,BJ,CE,DZ,BX,AB,CY,↓reduceIte,jA,jG,jB,jC,enP,S9,RZ,I9,jP,f13,f15,DU hi',FM ACR ZH JR hi',ASG,AQQ _ _ [.str ⟨#[]⟩,.int .i64 0,.int .i64 0,.str ⟨#[]⟩,.sl .nil 0 [],.sl .nil 0 []] rfl,DL SQ,NU,jI];refine GM 2 (fun F' H'=>F' 1=.ptr h.length 0 0∧F' 13=.sl m.pm 6 (m.pts.map GL)∧F' 14=.int .i64 m.pts.length∧F' 15=.int .i64 (i:Nat)∧H'[h.length]?=some (.live 2 [D5 m])∧ext h H'∧(∀b,isB (F' 3) b->h.length<b)∧outG 4 KW h (gP m (i+1)) (F' 3) H') (fun _ _=>False) ?_ ?_ (fun _ _ hh=>hh.elim)
   .refine DK (fun n F' H'=>∃k,n+k=m.pts[i].bins.length∧F' 1=.ptr h.length 0 0∧F' 13=.sl m.pm 6 (m.pts.map GL)∧F' 14=.int .i64 m.pts.length∧F' 15=.int .i64 (i:Nat)∧F' 4=.int .i64 (i:Nat)∧F' 21=.sl m.pts[i].bm 4 (m.pts[i].bins.map GV)∧F' 22=.int .i64 m.pts[i].bins.length∧F' 23=.int .i64 (k:Nat)∧H'[h.length]?=some (.live 2 [D5 m])∧ext h H'∧(∀b,isB (F' 3) b->h.length<b)∧outG 4 KW h (gP m i++gPk i m.pts[i] k) (F' 3) H') m.pts[i].bins.length ⟨0,by simp,by simp -implicitDefEqProofs only[AA,↓reduceIte,jA,f1],by simp -implicitDefEqProofs only[AA,↓reduceIte,jA,f13],by simp -implicitDefEqProofs only[AA,↓reduceIte,jA,f14],by simp -implicitDefEqProofs only[AA,↓reduceIte,jA,f15],by simp -implicitDefEqProofs only[AA,↓reduceIte,jA],by simp -implicitDefEqProofs only[AA,↓reduceIte,jA],by simp -implicitDefEqProofs only[AA,↓reduceIte,jA],by simp -implicitDefEqProofs only[AA,↓reduceIte]; rfl,CU gm,he.app _,hlt,by rw[show gPk i m.pts[i] 0=[] from rfl,jF]; exact ho.app _⟩ ?_
    clear f1 f13 f14 f15 gm he hlt ho;rintro n' F H ⟨k,hk,f1,f13,f14,f15,f4,f21,f22,f23,gm,he,hlt,ho⟩;simp -implicitDefEqProofs only[BC,BA,BI,A8,AY,BB,AO,AQ,AL,BD,AX,AC,AA,AZ,BR,AB,CZ,↓reduceIte,jB,jC,enP,f22,f23];refine CV (fun hc=>?_) (fun hc=>?_)
    .have hk':k<m.pts[i].bins.length:=by simpa using hc
     have hkd:kindOf m.pts[i] k=(m.pts[i].bins[k]).kind:=by unfold kindOf; rw[jS hk']
     have hkl:=AIH i m.pts[i] k;have ho1:=ho.app [.live 4 [GV m.pts[i].bins[k]]];have he1:ext h (H++[.live 4 [GV m.pts[i].bins[k]]]):=he.app _;simp -implicitDefEqProofs only[BC,BP,BA,BO,BI,A8,AY,BB,AO,AQ,AL,BD,AX,AC,EM,AA,AZ,AU,BH,BG,A7,EX,BQ,D6,BR,BJ,CE,BX,AB,CY,D7,↓reduceIte,jA,jG,jB,jC,enP,YX,MR,jP,f21,f23,DU hk',FM VK QR MK hk',AZX,A1A _ _ [.str ⟨#[]⟩,.int .i64 0,.sl .nil 0 [],.sl .nil 0 []] rfl,DL ag3,UR];cases hz:(m.pts[i].bins[k].kind==0)
     .have hgk:gPk i m.pts[i] (k+1)=gPk i m.pts[i] k:=by
       simp only[gPk]; rw[hkd,hz]; simp
      simp -implicitDefEqProofs only[BA,BO,A8,EJ,EQ,DR,AY,BB,AO,AQ,AL,BD,AX,AC,AA,AZ,AU,BH,BG,BR,AB,C9,↓reduceIte,jA,jB,jC,enP,f23,wrap_succ (show k<9223372036854775807 by omega)];refine⟨n'-1,by omega,k+1,by omega,f1,f13,f14,f15,f4,f21,f22,rfl,CU gm,he1,hlt,?_⟩;rw[hgk]; exact ho1
     .have hgk:gP m i++gPk i m.pts[i] (k+1)=(gP m i++gPk i m.pts[i] k)++[mkP i k]:=by
       simp only[gPk]; rw[hkd,hz,if_pos rfl,zA]
      obtain⟨v',H',ha,ho',hkeep,he',hle,hb'⟩:=ho1.append AS5 ABQ ASV A0S (by omega) (by rw[zW]; omega) he1 (mkP i k);simp -implicitDefEqProofs only[EZ,FW,BA,DI,AY,AO,AQ,AL,BD,AX,AC,AA,AZ,BG,IV,EP,BX,AB,↓reduceIte,jA,jB,jC,enP,f4,AE8,A4M,A4K];rw[show [AV.bool false,AV.int .i64 ((i:Nat):Int),AV.sl .full 1 [[.int .i64 ((k:Nat):Int)]],AV.int .i64 ((k:Nat):Int)]=KW (mkP i k) from rfl];simp -implicitDefEqProofs only[AY,AO,AQ,AL,BD,AX,AC,AA,AZ,GR,BX,↓reduceIte,jA,jB,jC,enP,A4F _ _ (show(KW (mkP i k)).all AV.frozen=true from rfl)];refine H9 (v:=v') (h:=H') ha ?_;simp -implicitDefEqProofs only[BA,A8,EJ,EQ,AY,BB,AO,AQ,AL,BD,AX,AC,AA,AZ,AU,BH,BG,A7,BR,AB,C9,↓reduceIte,jA,jB,jC,enP,f23,wrap_succ (show k<9223372036854775807 by omega)];refine⟨n'-1,by omega,k+1,by omega,f1,f13,f14,f15,f4,f21,f22,rfl,hkeep _ _ (CU gm) (fun e=>by have:=hlt _ e; omega),he',fun b hbb=>?_,?_⟩
      .have h1:=hb' b hbb; have h2:=CJ gm; rw[h1]; simp; omega
      .rw[hgk]; exact ho'
    .have hk':¬k<m.pts[i].bins.length:=by simpa using hc
     have hke:k=m.pts[i].bins.length:=by omega
     simp -implicitDefEqProofs only[DJ,EG,KC,ET,AA,↓reduceIte,jA];refine⟨f1,f13,f14,f15,gm,he,hlt,?_⟩;rw[hgp,<-hke]; exact ho
   .rintro F' H' ⟨g1,g13,g14,g15,gm',he',hlt',ho'⟩
    simp -implicitDefEqProofs only[BA,A8,EJ,EU,EQ,AY,BB,AO,AQ,AL,BD,AX,AC,AA,AZ,AU,BH,BG,BR,AB,C9,↓reduceIte,jA,jB,jC,enP,g15,wrap_succ (show i<9223372036854775807 by omega)];exact⟨n-1,by omega,i+1,by omega,g1,g13,g14,rfl,gm',he',hlt',ho'⟩
  .have hi':¬i<m.pts.length:=by simpa using hc
   have hie:i=m.pts.length:=by omega
   subst hie;simp -implicitDefEqProofs only[DJ,EG,KC,ET,AA,↓reduceIte,jA];exact⟨f1,gm,he,hlt,ho⟩
 .rintro F H ⟨f1,gm,he,hlt,ho⟩
  simp -implicitDefEqProofs only[BC,BP,BA,A8,EU,AY,BB,AO,AQ,AL,BD,AX,AC,AA,AZ,AU,BH,BG,BQ,BJ,DZ,AB,↓reduceIte,jG,jB,jC,enP,VQ,J8,f1,A1S gm,jI];refine DK (fun n F H=>∃i,n+i=m.crs.length∧F 1=.ptr h.length 0 0∧F 44=.int .i64 m.crs.length∧F 45=.int .i64 (i:Nat)∧H[h.length]?=some (.live 2 [D5 m])∧ext h H∧(∀b,isB (F 3) b->h.length<b)∧outG 4 KW h (gC m i) (F 3) H) m.crs.length ⟨0,by simp,by simp -implicitDefEqProofs only[AA,↓reduceIte,jA,f1],by simp -implicitDefEqProofs only[AA,↓reduceIte,jA],by simp -implicitDefEqProofs only[AA,↓reduceIte]; rfl,gm,he,hlt,ho⟩ ?_;clear f1 gm he hlt ho;rintro n F H ⟨i,hi,f1,f44,f45,gm,he,hlt,ho⟩;simp -implicitDefEqProofs only[BC,BA,BI,A8,AY,BB,AO,AQ,AL,BD,AX,AC,AA,AZ,BR,AB,CZ,↓reduceIte,jB,jC,enP,f44,f45];refine CV (fun hc=>?_) (fun hc=>?_)
  .have hi':i<m.crs.length:=by simpa using hc
   have hcg:=hg.crs _ (jQ hi');have hfs:=hg.full.szs hcg.here
   have hgc:gC m (i+1)=gC m i++gCk m i m.crs[i] (GK (szs m m.crs[i].pts)):=by
    simp only[gC]; rw[jS hi']
   have hpr:=hcg.prod;have hcl:=ANC hg i;simp -implicitDefEqProofs only[BC,BP,BA,BO,A8,AY,BB,AO,AQ,AL,BD,AX,AC,AA,AZ,BZ,BG,A7,BQ,CB,BU,AB,jD,jE,jF,↓reduceIte,jA,jB,jC,enP,f1,f45,ldM gm];refine(ABS G m i hi' hcg hg.full _).use ?_;simp -implicitDefEqProofs only[BP,A8,AY,BB,AO,AQ,AL,BD,AX,AC,AU,BH,BG,jB,jC];refine GM 6 (fun F' H'=>F' 1=.ptr h.length 0 0∧F' 44=.int .i64 m.crs.length∧F' 45=.int .i64 (i:Nat)∧H'[h.length]?=some (.live 2 [D5 m])∧ext h H'∧(∀b,isB (F' 3) b->h.length<b)∧outG 4 KW h (gC m (i+1)) (F' 3) H') (fun _ _=>False) ?_ ?_ (fun _ _ hh=>hh.elim)
   .refine DK (fun n F' H'=>∃k,n+k=GK (szs m m.crs[i].pts)∧F' 1=.ptr h.length 0 0∧F' 44=.int .i64 m.crs.length∧F' 45=.int .i64 (i:Nat)∧F' 8=.int .i64 (i:Nat)∧F' 50=.int .i64 (GK (szs m m.crs[i].pts):Nat)∧F' 51=.int .i64 (k:Nat)∧H'[h.length]?=some (.live 2 [D5 m])∧ext h H'∧(∀b,isB (F' 3) b->h.length<b)∧outG 4 KW h (gC m i++gCk m i m.crs[i] k) (F' 3) H') (GK (szs m m.crs[i].pts)) ⟨0,by simp,by simp -implicitDefEqProofs only[AA,↓reduceIte,jA,f1],by simp -implicitDefEqProofs only[AA,↓reduceIte,jA,f44],by simp -implicitDefEqProofs only[AA,↓reduceIte,jA,f45],by simp -implicitDefEqProofs only[AA,↓reduceIte,jA],by simp -implicitDefEqProofs only[AA,↓reduceIte,jA],by simp -implicitDefEqProofs only[AA,↓reduceIte]; rfl,gm,he,hlt,by rw[show gCk m i m.crs[i] 0=[] from rfl,jF]; exact ho⟩ ?_
    clear f1 f44 f45 gm he hlt ho;rintro n' F H ⟨k,hk,f1,f44,f45,f8,f50,f51,gm,he,hlt,ho⟩;simp -implicitDefEqProofs only[BC,BA,BI,A8,AY,BB,AO,AQ,AL,BD,AX,AC,AA,AZ,BR,AB,CZ,↓reduceIte,jB,jC,enP,f50,f51];refine CV (fun hc=>?_) (fun hc=>?_)
    .have hk':k<GK (szs m m.crs[i].pts):=by simpa using hc
     have hkl:=AII m i m.crs[i] k;simp -implicitDefEqProofs only[BC,BP,BA,BO,A8,AY,BB,AO,AQ,AL,BD,AX,AC,AA,AZ,BZ,BG,A7,BQ,CB,BU,AB,jD,jE,jF,↓reduceIte,jA,jB,jC,enP,f1,f8,f51,ldM gm];refine(AHP G m i hi' hcg hg.full k hk' _).use ?_;simp -implicitDefEqProofs only[zB,zG,BC,BA,A8,AY,BB,BL,BV,CO,GH,AO,AQ,AL,BD,AX,AC,AA,AZ,BZ,BG,A7,BQ,FK,GN,CB,BU,AB,jD,jE,jF,↓reduceIte,jA,jB,jC,enP,f1,f8,ldM gm];refine(AF2 G m i hi' hcg _ _ (UB _ _ fun n hn=>(hfs n hn).1) _).use ?_;simp -implicitDefEqProofs only[BI,A8,AY,BB,BL,BV,CO,GH,AO,AQ,AL,BD,AX,AC,AA,AZ,AU,BM,CQ,DY,IG,AB,FI,↓reduceIte,jA,jB,jC];cases hz:Q3 m m.crs[i] (NG (szs m m.crs[i].pts) k)
     .have hgk:gCk m i m.crs[i] (k+1)=gCk m i m.crs[i] k:=by
       simp only[gCk]; rw[hz]; simp
      simp -implicitDefEqProofs only[BA,BO,A8,EJ,EQ,DR,AY,BB,AO,AQ,AL,BD,AX,AC,AA,AZ,AU,BH,BG,BR,AB,C9,↓reduceIte,jA,jB,jR,jC,enP,f51,wrap_succ (show k<9223372036854775807 by omega)];refine⟨n'-1,by omega,k+1,by omega,f1,f44,f45,f8,f50,rfl,gm,he,hlt,?_⟩;rw[hgk]; exact ho
     .have hgk:gC m i++gCk m i m.crs[i] (k+1)=(gC m i++gCk m i m.crs[i] k)++[mkC m i k m.crs[i]]:=by
       simp only[gCk]; rw[hz,if_pos rfl,zA]
      obtain⟨v',H',ha,ho',hkeep,he',hle,hb'⟩:=ho.append AS5 ABQ ASV A0S (by omega) (by rw[zW]; omega) he (mkC m i k m.crs[i]);simp -implicitDefEqProofs only[EZ,FW,BA,DI,AY,AO,AQ,AL,BD,AX,AC,AA,AZ,AU,BM,BG,IV,EP,AB,↓reduceIte,jA,jB,jR,jC,enP,f8,A4O,A4L];rw[show [AV.bool true,AV.int .i64 ((i:Nat):Int),AV.sl .any 1 ((NG (szs m m.crs[i].pts) k).map encI),AV.int .i64 ((k:Nat):Int)]=KW (mkC m i k m.crs[i]) from rfl];simp -implicitDefEqProofs only[AY,AO,AQ,AL,BD,AX,AC,AA,AZ,GR,BX,↓reduceIte,jA,jB,jC,enP,A4F _ _ (show(KW (mkC m i k m.crs[i])).all AV.frozen=true from rfl)];refine H9 (v:=v') (h:=H') ha ?_;simp -implicitDefEqProofs only[BA,A8,EJ,EQ,AY,BB,AO,AQ,AL,BD,AX,AC,AA,AZ,AU,BH,BG,A7,BR,AB,C9,↓reduceIte,jA,jB,jC,enP,f51,wrap_succ (show k<9223372036854775807 by omega)];refine⟨n'-1,by omega,k+1,by omega,f1,f44,f45,f8,f50,rfl,hkeep _ _ gm (fun e=>by have:=hlt _ e; omega),he',fun b hbb=>?_,?_⟩
      .have h1:=hb' b hbb; have h2:=CJ gm; omega
      .rw[hgk]; exact ho'
    .have hk':¬k<GK (szs m m.crs[i].pts):=by simpa using hc
     have hke:k=GK (szs m m.crs[i].pts):=by omega
     simp -implicitDefEqProofs only[DJ,EG,KC,ET,AA,↓reduceIte,jA];refine⟨f1,f44,f45,gm,he,hlt,?_⟩;rw[hgc,<-hke]; exact ho
   .rintro F' H' ⟨g1,g44,g45,gm',he',hlt',ho'⟩
    simp -implicitDefEqProofs only[BA,A8,EJ,EU,EQ,AY,BB,AO,AQ,AL,BD,AX,AC,AA,AZ,AU,BH,BG,BR,AB,C9,↓reduceIte,jA,jB,jC,enP,g45,wrap_succ (show i<9223372036854775807 by omega)];exact⟨n-1,by omega,i+1,by omega,g1,g44,rfl,gm',he',hlt',ho'⟩
  .have hi':¬i<m.crs.length:=by simpa using hc
   have hie:i=m.crs.length:=by omega
   subst hie;simp -implicitDefEqProofs only[BC,BA,BK,DJ,A8,EG,EU,ET,CG,AY,BB,AO,AQ,AL,BD,AX,AC,AA,AZ,BG,A7,↓reduceIte,jA,jB,jC];exact⟨he,ho⟩
def cellAt (l:List Is)(i k:Nat):Int:=match l[i]? with
 | some x=>(match x.l[k]? with|some z=>z|none=>0)
 | none=>0
def ML (v:Cvr)(g:Gl):Int:=if g.cross then cellAt v.crs g.idx g.at_ else cellAt v.pts g.idx g.at_
def InL (l:List Is)(i k:Nat):Prop:=∃hi:i<l.length,k<(l[i]'hi).l.length
def InR (v:Cvr)(g:Gl):Prop:=if g.cross=true then InL v.crs g.idx g.at_ else InL v.pts g.idx g.at_
theorem AG9 {l:List Is}{i k:Nat}(h:InL l i k):∃(hi:i<l.length) (hk:k<l[i].l.length),cellAt l i k=l[i].l[k]:=by
 obtain⟨hi,hk⟩:=h;refine⟨hi,hk,?_⟩;unfold cellAt;rw[jS hi];simp only;rw[jS hk]
def AWX (m:Mo)(g:Gl):Prop:=(g.cross=false∧∃p,m.pts[g.idx]?=some p∧g.at_<p.bins.length)∨(g.cross=true∧∃c,m.crs[g.idx]?=some c∧g.at_<GK (szs m c.pts))
theorem AU0 {i:Nat}{p:Pt}:∀ {k:Nat} {g:Gl},g∈gPk i p k->g.cross=false∧g.idx=i∧g.at_<k
 | 0,g,h=>by cases h
 | k+1,g,h=>by
   simp only[gPk,qC] at h;rcases h with h|h
   .obtain⟨h1,h2,h3⟩:=AU0 h; exact⟨h1,h2,by omega⟩
   .split at h
    .simp at h; subst h; exact⟨rfl,rfl,Nat.lt_succ_self k⟩
    .cases h
theorem A0O {m:Mo}:∀ {i:Nat} {g:Gl},g∈gP m i->AWX m g
 | 0,g,h=>by cases h
 | i+1,g,h=>by
   simp only[gP,qC] at h;rcases h with h|h
   .exact A0O h
   .split at h
    .rename_i p hp
     obtain⟨h1,h2,h3⟩:=AU0 h;exact .inl ⟨h1,p,by rw[h2]; exact hp,h3⟩
    .cases h
theorem AU1 {m:Mo}{i:Nat}{c:Cr}:∀ {k:Nat} {g:Gl},g∈gCk m i c k->g.cross=true∧g.idx=i∧g.at_<k
 | 0,g,h=>by cases h
 | k+1,g,h=>by
   simp only[gCk,qC] at h;rcases h with h|h
   .obtain⟨h1,h2,h3⟩:=AU1 h; exact⟨h1,h2,by omega⟩
   .split at h
    .simp at h; subst h; exact⟨rfl,rfl,Nat.lt_succ_self k⟩
    .cases h
theorem A0P {m:Mo}:∀ {i:Nat} {g:Gl},g∈gC m i->AWX m g
 | 0,g,h=>A0O h
 | i+1,g,h=>by
   simp only[gC,qC] at h;rcases h with h|h
   .exact A0P h
   .split at h
    .rename_i c hc
     obtain⟨h1,h2,h3⟩:=AU1 h;exact .inr ⟨h1,c,by rw[h2]; exact hc,h3⟩
    .cases h
theorem UN {α:Type}{ok:α->Is->Bool}:∀ {ws:List α} {xs:List Is},JY ok ws xs=true->∀(i:Nat) (a:α),ws[i]?=some a->∃x,xs[i]?=some x∧ok a x=true
 | [],[],_,i,a,h=>by simp at h
 | w::ws,x::xs,h,i,a,ha=>by
   simp only[JY,jV] at h
   cases i with
   | zero=>simp at ha; subst ha; exact⟨x,rfl,h.1⟩
   | succ i=>exact UN h.2 i a (by simpa using ha)
 | [],_::_,h,_,_,_=>by cases h
 | _::_,[],h,_,_,_=>by cases h
theorem AUQ {l:List Is}{i k n:Nat}{x:Is}(hx:l[i]?=some x)(hn:x.l.length=n)(hk:k<n):InL l i k:=by
 obtain⟨hi,e⟩:=List.getElem?_eq_some_iff.1 hx;exact⟨hi,by rw[e]; omega⟩
theorem AUP {m:Mo}{v:Cvr}(hf:G5 m v=true){g:Gl}(hg:g∈goals m):InR v g:=by
 unfold G5 at hf;simp only[jV] at hf;obtain⟨⟨⟨⟨_,h1⟩,h2⟩,_⟩,_⟩:=hf;unfold InR;rcases A0P hg with⟨hc,p,hp,hk⟩|⟨hc,c,hcc,hk⟩
 .rw[if_neg (by simp [hc])]
  obtain⟨x,hx,ho⟩:=UN h1 _ _ hp;unfold okP at ho;simp only[jV,beq_iff_eq] at ho;exact AUQ hx ho.1 hk
 .rw[if_pos hc]
  obtain⟨x,hx,ho⟩:=UN h2 _ _ hcc;unfold okC at ho;simp only[jV,beq_iff_eq] at ho;exact AUQ hx ho.1 hk
theorem A33 (g:Gl):(KW g)[0]?=some (.bool g.cross):=rfl
theorem A32 (g:Gl):(KW g)[1]?=some (.int .i64 (g.idx:Int)):=rfl
theorem A31 (g:Gl):(KW g)[3]?=some (.int .i64 (g.at_:Int)):=rfl
theorem bxG (h:Hp)(g:Gl):P7 h (.agg (KW g))=some (.ptr h.length 0 0,h++[.live 4 [KW g]]):=rfl
theorem X7 (G:Nat->AV)(v:Cvr)(g:Gl)(hi:InR v g)(h:Hp):PCall (En G) 82 [.agg (KW g),.agg (ER v)] h (.bool (decide (ML v g>0))):=by
 refine ACalls.pure0 rfl ?_;refine acN Tryz.func82 rfl ?_;show awp _ _ _ _ _ (EN _ [.tmp 4] _);have gg:(h++[ABlk.live 4 [KW g]]++[ABlk.live 4 [ER v]])[h.length]?=some (.live 4 [KW g]):=CU (CX _ _);have gv:=CX (h++[ABlk.live 4 [KW g]]) (.live 4 [ER v]);have hx:∃x,h++[ABlk.live 4 [KW g]]++[ABlk.live 4 [ER v]]=h++x:=⟨_,zA _ _ _⟩;simp -implicitDefEqProofs only[BC,BA,A8,AY,BB,AO,AQ,AL,BD,AX,AC,AA,AZ,AU,BM,A7,FU,BQ,BJ,BX,AB,BF,BN,↓reduceIte,jA,jK,jB,jC,enP,APZ,AC6,bxG,bxV]
 generalize h++[ABlk.live 4 [KW g]]++[ABlk.live 4 [ER v]]=H at gg gv hx|-
 generalize (h++[ABlk.live 4 [KW g]]).length=vb at gv|-
 have l0:ED Tryz.prog H 4 (.ptr h.length 0 0)=some (.bool g.cross):=by rw[DX ag4 gg (row:=KW g) rfl,A33]
 have l1:ED Tryz.prog H 3 (.ptr h.length 0 1)=some (.int .i64 (g.idx:Int)):=by rw[DX ag3 gg (row:=KW g) rfl,A32]
 have l3:ED Tryz.prog H 3 (.ptr h.length 0 3)=some (.int .i64 (g.at_:Int)):=by rw[DX ag3 gg (row:=KW g) rfl,A31]
 have lv0:ED Tryz.prog H 26 (.ptr vb 0 0)=some (.sl v.pm 1 (v.pts.map encL)):=by rw[DX Q7 gv (row:=ER v) rfl,ALM]
 have lv1:ED Tryz.prog H 26 (.ptr vb 0 1)=some (.sl v.cm 1 (v.crs.map encL)):=by rw[DX Q7 gv (row:=ER v) rfl,ALK]
 simp -implicitDefEqProofs only[BI,A8,BB,AC,AA,AZ,AB,↓reduceIte,l0];unfold InR at hi;cases hc:g.cross
 .rw[if_neg (by simp [hc])] at hi
  obtain⟨h1,h2,h3⟩:=AG9 hi;have hcg:ML v g=v.pts[g.idx].l[g.at_]:=by unfold ML; rw[hc,if_neg (by simp),h3]
  simp -implicitDefEqProofs only[BC,BO,A8,DR];refine E8 (by kernel_rfl) ?_;simp -implicitDefEqProofs only[F6,EH,DT,FB,EI,JW,FH,I4,D9,EF,BK,A8,CG,AO,AA,AZ,AU,BH,BQ,BR,BJ,CE,AB,FV,↓reduceIte,jA,jM,jK,jG,jB,enP,OI,MJ,JF,AIU,AC6,APY,l1,l3,lv0,DU h1,DF KP h1,OC,DU h2,DF ag3 h2,encI0];exact⟨by rw[hcg],hx⟩
 .rw[if_pos hc] at hi
  obtain⟨h1,h2,h3⟩:=AG9 hi;have hcg:ML v g=v.crs[g.idx].l[g.at_]:=by unfold ML; rw[hc,if_pos rfl,h3]
  simp -implicitDefEqProofs only[BC,DI];refine E8 (by kernel_rfl) ?_;simp -implicitDefEqProofs only[F6,EH,DT,FB,EI,JW,FH,I4,D9,EF,BK,A8,CP,CG,AO,AA,AZ,AU,BH,BQ,BR,BJ,CE,AB,FV,↓reduceIte,jA,jM,jK,jG,jB,enP,OI,L6,JF,AIU,AC6,APY,l1,l3,lv1,DU h1,DF KP h1,OC,DU h2,DF ag3 h2,encI0];exact⟨by rw[hcg],hx⟩
theorem ARW (g:Gl):(KW g).all AV.leaf=true:=rfl
theorem AVJ (g:Gl):(UQ g).all AV.frozen=true:=rfl
theorem A4X (h:Hp):KQ Tryz.prog h 108=some (.ptr h.length 0 0,h++[.live 4 [[.bool false,.int .i64 0,.sl .nil 0 [],.int .i64 0]]]):=KE (row:=[.bool false,.int .i64 0,.sl .nil 0 [],.int .i64 0]) (by kernel_rfl)
theorem A2V (h:Hp)(g:Gl)(row:List AV)(hr:row.length=4):FX Tryz.prog (h++[.live 4 [row]]) 108 (.ptr h.length 0 0) (.agg (KW g))=some (h++[.live 4 [KW g]]):=by
 rw[MX (TV (ARW g)) (by rw[SI]; exact ABQ) (by rw[SI,hr]; exact jL _)];have:splice row 0 (KW g)=KW g:=by unfold splice; simp [SI,hr]
 rw[this]
theorem ldG {h:Hp}{b:Nat}{g:Gl}(hb:h[b]?=some (.live 4 [KW g])):ED Tryz.prog h 108 (.ptr b 0 0)=some (.agg (KW g)):=by
 rw[J4 AWQ ABQ hb rfl (by rw[SI]; exact jL 4)]; rfl
theorem ldH {h:Hp}{b:Nat}{g:Gl}(hb:h[b]?=some (.live 4 [KW g])):ED Tryz.prog h 106 (.ptr b 0 0)=some (.agg (UQ g)):=by
 rw[J4 A48 AOW hb rfl (by rw[SI]; omega)]; rfl
theorem A6A (h:Hp)(g:Gl):FO Tryz.prog false h 32 1 [(0,.agg (UQ g))]=some (.sl .full 3 [UQ g],h):=by
 have h1:Tryz.prog.underlying 32=some (.slice 106):=A2O;unfold FO;simp only[h1,AOW,A2J];have h2:V6 3 0 [(0,AV.agg (UQ g))]=some [UQ g]:=rfl;simp [h2,AVJ]
def UJ (m:Mo):Nat:=if EY m=0 then (goals m).length else 0
theorem AGW (G:Nat->AV)(hG:GOk G)(m:Mo)(hm:MoOk m)(h:Hp):PCall (En G) 22 [.agg (D5 m)] h (.int .i64 (UJ m)):=by
 refine ACalls.pure0 rfl ?_;refine acN Tryz.func22 rfl ?_;show awp _ _ _ _ _ (EN _ [.tmp 2] _);simp -implicitDefEqProofs only[BC,BA,A8,AY,BB,AO,AQ,AL,BD,AX,AC,AA,AZ,AU,BZ,BH,A7,FU,BQ,CB,BU,BX,AB,BF,jD,jE,jF,↓reduceIte,jA,jB,jC,enP,bxM,ldM (CX h _)];refine(RY G hG m hm _).use ?_;simp -implicitDefEqProofs only[BI,A8,AY,BB,AO,AQ,AL,BD,AX,AC,AA,AZ,AU,BH,BR,AB,EK,↓reduceIte,jB,jC,enP];refine CV (fun h1=>?_) (fun h1=>?_)
 .simp -implicitDefEqProofs only[BC,BA,BK,A8,CP,CG,AY,BB,AO,AQ,AL,BD,AX,AC,AA,AU,BH,A7,↓reduceIte,jB,jC]
  exact⟨by unfold UJ; rw[if_neg (by simpa using h1)]; rfl,_,rfl⟩
 have h1':EY m=0:=by simpa using h1
 simp -implicitDefEqProofs only[BC,BA,BO,A8,AY,AO,AQ,AL,BD,AX,AC,AA,AZ,BZ,BQ,CB,BU,AB,jD,jE,jF,↓reduceIte,jA,jB,jC,enP,ldM (CX h _)];refine(Y0 G m hm (LV h1') _).use ?_;simp -implicitDefEqProofs only[BK,A8,CG,AY,BB,AO,AQ,AL,BD,AX,AC,AA,AZ,A7,DZ,AB,↓reduceIte,jB,jC,enP,AUC,jI];exact⟨by unfold UJ; rw[if_pos h1'],_,rfl⟩
theorem NS {m:Mo}{v:Cvr}(hf:G5 m v=true):EY m=0:=by
 unfold G5 at hf;simp only[jV,beq_iff_eq] at hf;exact hf.1.1.1.1
def QP (m:Mo)(v:Cvr):Nat:=if G5 m v=true then (goals m).countP (fun g=>decide (ML v g>0)) else 0
theorem ALX {α:Type}(p:α->Bool)(xs:List α)(k:Nat)(hk:k<xs.length):(xs.take (k+1)).countP p=(xs.take k).countP p+(if p xs[k]=true then 1 else 0):=by
 rw[zL hk,List.countP_append]; simp
theorem ALG {α:Type}(p:α->Bool)(xs:List α)(k:Nat)(hk:k<xs.length):(xs.take (k+1)).filter p=(xs.take k).filter p++(if p xs[k]=true then [xs[k]] else []):=by
 rw[zL hk,List.filter_append]; simp [List.filter_cons]
theorem AD1 (G:Nat->AV)(hG:GOk G)(hT:OB G)(m:Mo)(v:Cvr)(hm:MoOk m)(hv:CvOk v)(h:Hp):PCall (En G) 24 [.agg (D5 m),.agg (ER v)] h (.int .i64 (QP m v)):=by
 refine ACalls.pure0 rfl ?_;refine acN Tryz.func24 rfl ?_;show awp _ _ _ _ _ (EN _ [.tmp 4] _);have t:=TwoV.mk' h m v;simp -implicitDefEqProofs only[BC,BA,A8,AY,BB,AO,AQ,AL,BD,AX,AC,AA,AZ,AU,BH,A7,FU,BQ,BX,BF,BN,↓reduceIte,jA,jB,jC,enP,bxM,bxV]
 generalize h++[ABlk.live 2 [D5 m]]++[ABlk.live 4 [ER v]]=H at t|-
 generalize (h++[ABlk.live 2 [D5 m]]).length=vb at t|-
 simp -implicitDefEqProofs only[AY,AO,AQ,AL,BD,AX,AC,AA,AZ,BZ,BQ,CB,BU,AB,jD,jE,jF,↓reduceIte,jA,jB,jC,enP,ldM t.gm,ldV t.gv];refine(XN G hG hT m v hm hv _).use ?_;simp -implicitDefEqProofs only[BI,A8,AY,BB,AO,AQ,AL,BD,AX,AC,AA,AZ,IG,AB,FI,↓reduceIte,jB,jC];cases hf:G5 m v
 .simp -implicitDefEqProofs only[BC,BA,BK,A8,CP,CG,DI,AY,BB,AO,AQ,AL,BD,AX,AC,AA,AU,BH,A7,↓reduceIte,jB,jC]
  exact⟨by unfold QP; rw[hf]; rfl,t.hx⟩
 have hg:=LV (NS hf);have hgl:=AA1 hg;have hin:∀g∈goals m,InR v g:=fun g hg'=>AUP hf hg'
 simp -implicitDefEqProofs only[BC,BA,BO,A8,DR,AY,BB,AO,AQ,AL,BD,AX,AC,AA,AZ,AU,BZ,BH,A7,BQ,CB,BU,AB,jD,jE,jF,↓reduceIte,jA,jB,jR,jC,enP,ldM t.gm];refine(Y0 G m hm hg _).use ?_;have hrn:QP m v=(goals m).countP (fun g=>decide (ML v g>0)):=by unfold QP; rw[if_pos hf]
 rw[hrn]
 generalize goals m=gs at hgl hin|-
 simp -implicitDefEqProofs only[BP,A8,AY,BB,AO,AQ,AL,BD,AX,AC,AA,AZ,AU,BH,BG,DZ,AB,↓reduceIte,jB,jC,enP,AUC,jI];refine DK (fun n F H'=>∃k,n+k=gs.length∧F 3=.ptr vb 0 0∧F 5=.int .i64 ((gs.take k).countP (fun g=>decide (ML v g>0)):Nat)∧F 13=.sl (nm gs) 4 (gs.map KW)∧F 14=.int .i64 gs.length∧F 15=.int .i64 (k:Nat)∧H'[vb]?=some (.live 4 [ER v])∧∃x,H'=h++x) gs.length ⟨0,by simp,by simp -implicitDefEqProofs only[AA,↓reduceIte,jA],by simp -implicitDefEqProofs only[AA,↓reduceIte,jA]; rfl,by simp -implicitDefEqProofs only[AA,↓reduceIte,jA],by simp -implicitDefEqProofs only[AA,↓reduceIte,jA],by simp -implicitDefEqProofs only[AA,↓reduceIte]; rfl,t.gv,t.hx⟩ ?_;rintro n F H' ⟨k,hk,f3,f5,f13,f14,f15,gv,x,rfl⟩;simp -implicitDefEqProofs only[BC,BA,BI,A8,AY,BB,AO,AQ,AL,BD,AX,AC,AA,AZ,BR,AB,CZ,↓reduceIte,jB,jC,enP,f14,f15];refine CV (fun hc=>?_) (fun hc=>?_)
 .have hk':k<gs.length:=by simpa using hc
  have hcl:(gs.take k).countP (fun g=>decide (ML v g>0))<=k:=zY (List.countP_le_length) (by simp; omega);have hct:=ALX (fun g=>decide (ML v g>0)) gs k hk';simp -implicitDefEqProofs only[BC,BP,BA,BO,A8,AY,BB,AO,AQ,AL,BD,AX,AC,EM,AA,AZ,BZ,EX,BQ,D6,CE,CB,BU,BX,AB,CY,jD,jE,jF,↓reduceIte,jA,jB,jC,enP,A0N,jP,f3,f13,f15,DU hk',FM AWQ ABQ SI hk',A4X,A2V _ _ [.bool false,.int .i64 0,.sl .nil 0 [],.int .i64 0] rfl,ldG (CX (h++x) _),ldV (CU (x:=.live 4 [KW gs[k]]) gv)];refine(X7 G v gs[k] (hin _ (jQ hk')) _).use ?_;simp -implicitDefEqProofs only[BI,A8,BB,AC,AA,AZ,↓reduceIte];cases hp:decide (ML v gs[k]>0)
  .simp -implicitDefEqProofs only[BA,BO,A8,EJ,EQ,DR,AY,BB,AO,AQ,AL,BD,AX,AC,AA,AZ,AU,BH,BG,BR,AB,C9,↓reduceIte,jA,jB,jC,enP,f15,wrap_succ (show k<9223372036854775807 by omega)]
   refine⟨n-1,by omega,k+1,by omega,f3,?_,f13,f14,rfl,CU gv,_,zA _ _ _⟩;rw[hct,hp]; exact f5
  .simp -implicitDefEqProofs only[BA,A8,EJ,EQ,DI,AY,BB,AO,AQ,AL,BD,AX,AC,AA,AZ,AU,BH,BG,A7,BR,AB,C9,↓reduceIte,jA,jB,jC,enP,f5,f15,wrap_succ (show k<9223372036854775807 by omega),wrap_succ (show(gs.take k).countP (fun g=>decide (ML v g>0))<9223372036854775807 by omega)]
   refine⟨n-1,by omega,k+1,by omega,f3,?_,f13,f14,rfl,CU gv,_,zA _ _ _⟩;rw[hct,hp]; rfl
 .have hk':¬k<gs.length:=by simpa using hc
  rw[jX (by omega)] at f5;simp -implicitDefEqProofs only[BC,BA,BK,DJ,A8,EG,EU,ET,CG,AY,BB,AO,AQ,AL,BD,AX,AC,AA,AZ,BG,A7,↓reduceIte,jA,jB,jC,f5];exact⟨trivial,x,rfl⟩
def PW (m:Mo)(v:Cvr):List Gl:=if G5 m v=true then (goals m).filter (fun g => !decide (ML v g>0)) else []
theorem ANA (G:Nat->AV)(hG:GOk G)(hT:OB G)(m:Mo)(v:Cvr)(hm:MoOk m)(hv:CvOk v)(h:Hp):PCall (En G) 29 [.agg (D5 m),.agg (ER v)] h (.sl (nm (PW m v)) 3 ((PW m v).map UQ)):=by
 refine N7 A5T ?_;refine acN Tryz.func29 rfl ?_;show awp _ _ _ _ _ (EN _ [.tmp 4] _);have t:=TwoV.mk' h m v;have hvb:h.length<(h++[ABlk.live 2 [D5 m]]).length:=by simp
 simp -implicitDefEqProofs only[BC,BA,A8,AY,BB,AO,AQ,AL,BD,AX,AC,AA,AZ,AU,IY,A7,FU,BQ,BX,BF,BN,↓reduceIte,jA,jB,jC,enP,bxM,bxV]
 generalize h++[ABlk.live 2 [D5 m]]++[ABlk.live 4 [ER v]]=H at t|-
 generalize (h++[ABlk.live 2 [D5 m]]).length=vb at t hvb|-
 simp -implicitDefEqProofs only[AY,AO,AQ,AL,BD,AX,AC,AA,AZ,BZ,BQ,CB,BU,AB,jD,jE,jF,↓reduceIte,jA,jB,jC,enP,ldM t.gm,ldV t.gv];refine(XN G hG hT m v hm hv _).use ?_;simp -implicitDefEqProofs only[BI,A8,AY,BB,AO,AQ,AL,BD,AX,AC,AA,AZ,IG,AB,FI,↓reduceIte,jB,jC];cases hf:G5 m v
 .simp -implicitDefEqProofs only[BC,BA,BK,A8,CP,CG,DI,AY,BB,AO,AQ,AL,BD,AX,AC,AA,AU,IY,A7,↓reduceIte,jB,jC]
  have:PW m v=[]:=by unfold PW; rw[hf]; rfl
  rw[this];exact⟨t.hx,outG.nil _ _ _ _⟩
 have hg:=LV (NS hf);have hgl:=AA1 hg;have hin:∀g∈goals m,InR v g:=fun g hg'=>AUP hf hg'
 simp -implicitDefEqProofs only[BC,BA,BO,A8,DR,AY,BB,AO,AQ,AL,BD,AX,AC,AA,AZ,AU,BZ,IY,A7,BQ,CB,BU,AB,jD,jE,jF,↓reduceIte,jA,jB,jR,jC,enP,ldM t.gm];refine(Y0 G m hm hg _).use ?_;have hrn:PW m v=(goals m).filter (fun g => !decide (ML v g>0)):=by unfold PW; rw[if_pos hf]
 rw[hrn]
 generalize goals m=gs at hgl hin|-
 simp -implicitDefEqProofs only[BP,A8,AY,BB,AO,AQ,AL,BD,AX,AC,AA,AZ,AU,BH,BG,DZ,AB,↓reduceIte,jB,jC,enP,AUC,jI];refine DK (fun n F H'=>∃k,n+k=gs.length∧F 3=.ptr vb 0 0∧F 13=.sl (nm gs) 4 (gs.map KW)∧F 14=.int .i64 gs.length∧F 15=.int .i64 (k:Nat)∧H'[vb]?=some (.live 4 [ER v])∧ext h H'∧(∀b,isB (F 5) b->vb<b)∧outG 3 UQ h ((gs.take k).filter (fun g => !decide (ML v g>0))) (F 5) H') gs.length ⟨0,by simp,by simp -implicitDefEqProofs only[AA,↓reduceIte,jA],by simp -implicitDefEqProofs only[AA,↓reduceIte,jA],by simp -implicitDefEqProofs only[AA,↓reduceIte,jA],by simp -implicitDefEqProofs only[AA,↓reduceIte]; rfl,t.gv,t.hx,fun b hb=>hb.elim,outG.nil _ _ _ _⟩ ?_;rintro n F H' ⟨k,hk,f3,f13,f14,f15,gv,he,hlt,ho⟩;simp -implicitDefEqProofs only[BC,BA,BI,A8,AY,BB,AO,AQ,AL,BD,AX,AC,AA,AZ,BR,AB,CZ,↓reduceIte,jB,jC,enP,f14,f15];refine CV (fun hc=>?_) (fun hc=>?_)
 .have hk':k<gs.length:=by simpa using hc
  have hcl:((gs.take k).filter (fun g => !decide (ML v g>0))).length<=k:=zY (List.length_filter_le _ _) (by simp; omega);have hct:=ALG (fun g => !decide (ML v g>0)) gs k hk';have ho1:=ho.app [.live 4 [KW gs[k]]];have he1:ext h (H'++[.live 4 [KW gs[k]]]):=he.app _;simp -implicitDefEqProofs only[BC,BP,BA,BO,A8,AY,BB,AO,AQ,AL,BD,AX,AC,EM,AA,AZ,BZ,EX,BQ,D6,CE,CB,BU,BX,AB,CY,jD,jE,jF,↓reduceIte,jA,jB,jC,enP,A0N,jP,f3,f13,f15,DU hk',FM AWQ ABQ SI hk',A4X,A2V _ _ [.bool false,.int .i64 0,.sl .nil 0 [],.int .i64 0] rfl,ldG (CX H' _),ldV (CU (x:=.live 4 [KW gs[k]]) gv)];refine(X7 G v gs[k] (hin _ (jQ hk')) _).use ?_;simp -implicitDefEqProofs only[BI,A8,AY,BB,AO,AQ,AL,BD,AX,AC,AA,AZ,IG,AB,FI,↓reduceIte,jB,jC];cases hp:decide (ML v gs[k]>0)
  .obtain⟨v',H2,ha,ho',hkeep,he',hle,hb'⟩:=ho1.append A2O AOW A2J A56 (by omega) (by omega) he1 gs[k]
   simp -implicitDefEqProofs only[EZ,FW,BA,DI,AY,AO,AQ,AL,BD,AX,AC,AA,AZ,BG,EP,BQ,BJ,GR,BX,AB,↓reduceIte,jA,jK,jB,jC,enP,AC6,ldH (CX H' (.live 4 [KW gs[k]])),A6A];refine H9 (v:=v') (h:=H2) ha ?_;simp -implicitDefEqProofs only[BA,A8,EJ,EQ,AY,BB,AO,AQ,AL,BD,AX,AC,AA,AZ,AU,BH,BG,A7,BR,AB,C9,↓reduceIte,jA,jB,jC,enP,f15,wrap_succ (show k<9223372036854775807 by omega)];refine⟨n-1,by omega,k+1,by omega,f3,f13,f14,rfl,hkeep _ _ (CU gv) (fun e=>by have:=hlt _ e; omega),he',fun b hbb=>?_,?_⟩
   .have h1:=hb' b hbb; have h2:=CJ gv; rw[h1]; simp; omega
   .rw[hct,hp]; exact ho'
  .simp -implicitDefEqProofs only[BA,BO,A8,EJ,EQ,DR,AY,BB,AO,AQ,AL,BD,AX,AC,AA,AZ,AU,BH,BG,BR,AB,C9,↓reduceIte,jA,jB,jR,jC,enP,f15,wrap_succ (show k<9223372036854775807 by omega)]
   refine⟨n-1,by omega,k+1,by omega,f3,f13,f14,rfl,CU gv,he1,hlt,?_⟩;rw[hct,hp];simp only[jR,jY,if_false,jF];exact ho1
 .have hk':¬k<gs.length:=by simpa using hc
  rw[jX (by omega)] at ho;simp -implicitDefEqProofs only[BC,BA,BK,DJ,A8,EG,EU,ET,CG,AY,BB,AO,AQ,AL,BD,AX,AC,AA,AZ,BG,A7,↓reduceIte,jA,jB,jC];exact⟨he,ho⟩
theorem AKG {m:Mo}{v:Cvr}(hf:G5 m v=true):QP m v+(PW m v).length=UJ m:=by
 unfold QP PW UJ;rw[if_pos hf,if_pos hf,if_pos (NS hf)];generalize goals m=gs
 induction gs with
 | nil=>rfl
 | cons g gs ih =>
   cases hp:decide (ML v g>0)
   .simp only[List.countP_cons,List.filter_cons,hp,qU,jC,if_true,jY,if_false] at ih|-
    omega
   .simp only[List.countP_cons,List.filter_cons,hp,qU,jR,if_true,jY,if_false] at ih|-
    omega
theorem AUY {m:Mo}:UJ m<=8192:=by
 unfold UJ;split
 .rename_i h; exact AA1 (LV h)
 .omega
def AKR (m:Mo)(v:Cvr):Nat:=if G5 m v=true then (if UJ m=0 then 100 else 100*QP m v/UJ m) else 0
theorem AQ3 {m:Mo}{v:Cvr}(hf:G5 m v=true):QP m v<=UJ m:=by have:=AKG hf; omega
theorem AQ5 (G:Nat->AV)(hG:GOk G)(hT:OB G)(m:Mo)(v:Cvr)(hm:MoOk m)(hv:CvOk v)(h:Hp):PCall (En G) 26 [.agg (D5 m),.agg (ER v)] h (.int .i64 (AKR m v)):=by
 refine ACalls.pure0 rfl ?_;refine acN Tryz.func26 rfl ?_;show awp _ _ _ _ _ (EN _ [.tmp 4] _);have t:=TwoV.mk' h m v;simp -implicitDefEqProofs only[BC,BA,A8,AY,BB,AO,AQ,AL,BD,AX,AC,AA,AZ,AU,BH,A7,FU,BQ,BX,BF,BN,↓reduceIte,jA,jB,jC,enP,bxM,bxV]
 generalize h++[ABlk.live 2 [D5 m]]++[ABlk.live 4 [ER v]]=H at t|-
 generalize (h++[ABlk.live 2 [D5 m]]).length=vb at t|-
 simp -implicitDefEqProofs only[AY,AO,AQ,AL,BD,AX,AC,AA,AZ,BZ,BQ,CB,BU,AB,jD,jE,jF,↓reduceIte,jA,jB,jC,enP,ldM t.gm,ldV t.gv];refine(XN G hG hT m v hm hv _).use ?_;simp -implicitDefEqProofs only[BI,A8,AY,BB,AO,AQ,AL,BD,AX,AC,AA,AZ,IG,AB,FI,↓reduceIte,jB,jC];cases hf:G5 m v
 .simp -implicitDefEqProofs only[BC,BA,BK,A8,CP,CG,DI,AY,BB,AO,AQ,AL,BD,AX,AC,AA,AU,BH,A7,↓reduceIte,jB,jC]
  exact⟨by unfold AKR; rw[hf]; rfl,t.hx⟩
 have hgn:=AUY (m:=m);have hrl:=AQ3 hf;simp -implicitDefEqProofs only[BC,BA,BO,A8,DR,AY,AO,AQ,AL,BD,AX,AC,AA,AZ,BZ,BQ,CB,BU,AB,jD,jE,jF,↓reduceIte,jA,jB,jR,jC,enP,ldM t.gm];refine(AGW G hG m hm _).use ?_;simp -implicitDefEqProofs only[BC,BA,BI,A8,AY,BB,AO,AQ,AL,BD,AX,AC,AA,AZ,AU,BH,BG,A7,BR,AB,D7,↓reduceIte,jB,jC,enP];refine CV (fun h2=>?_) (fun h2=>?_)
 .simp -implicitDefEqProofs only[BC,BA,BK,A8,CP,CG,AY,BB,AO,AQ,AL,BD,AX,AC,AA,AU,BH,A7,↓reduceIte,jB,jC]
  have:UJ m=0:=by simpa using h2
  exact⟨by unfold AKR; rw[if_pos hf,if_pos this]; rfl,t.hx⟩
 have hg0:UJ m≠0:=by simpa using h2
 have hw:IntKind.i64.wrap (100*(QP m v:Int))=((100*QP m v:Nat):Int):=by
  rw[wrap_i64 (by omega) (by omega)]; omega
 simp -implicitDefEqProofs only[BC,BA,BO,A8,AY,AO,AQ,AL,BD,AX,AC,AA,AZ,BZ,BQ,CB,BU,AB,jD,jE,jF,↓reduceIte,jA,jB,jC,enP,ldM t.gm,ldV t.gv];refine(AD1 G hG hT m v hm hv _).use ?_;simp -implicitDefEqProofs only[BK,A8,CG,AY,BB,AO,AQ,AL,BD,AX,AC,AA,AZ,AU,BH,BG,A7,BR,AB,QB,↓reduceIte,jA,jB,jC,enP,hw,ACX _ _ (Nat.pos_of_ne_zero hg0) (show 100*QP m v<=9223372036854775807 by omega)];exact⟨by unfold AKR; rw[if_pos hf,if_neg hg0],t.hx⟩
structure Three (h H:Hp) (m:Mo) (a b:Cvr) (ab bb:Nat):Prop where
 gm:H[h.length]?=some (.live 2 [D5 m])
 ga:H[ab]?=some (.live 4 [ER a])
 gb:H[bb]?=some (.live 4 [ER b])
 hx:∃x,H=h++x
theorem Three.mk' (h:Hp)(m:Mo)(a b:Cvr):Three h (h++[.live 2 [D5 m]]++[.live 4 [ER a]]++[.live 4 [ER b]]) m a b (h++[ABlk.live 2 [D5 m]]).length (h++[ABlk.live 2 [D5 m]]++[ABlk.live 4 [ER a]]).length :=
 ⟨CU (CU (CX _ _)),CU (CX _ _),CX _ _,⟨_,by rw[zA,zA]⟩⟩
theorem A30 (g:Gl):(UQ g)[0]?=some (.bool g.cross):=rfl
theorem A3Z (g:Gl):(UQ g)[1]?=some (.int .i64 (g.idx:Int)):=rfl
theorem AVK (g:Gl):(UQ g)[2]?=some (.sl g.bm 1 (g.bins.map encI)):=rfl
def eqG (a b:Gl):Bool:=(a.cross==b.cross)&&((a.idx:Int)==(b.idx:Int))&&eqL a.bins b.bins
def eqH:List Gl->List Gl->Bool
 | [],[]=>true
 | a::ws,b::bs=>eqG a b&&eqH ws bs
 | _,_=>false
theorem AP1:∀ {a b:List Gl},eqH a b=true->a.length=b.length
 | [],[],_=>rfl
 | a::ws,b::bs,h=>by
   simp only[eqH,jV] at h;simp [AP1 h.2]
 | [],_::_,h=>by cases h
 | _::_,[],h=>by cases h
theorem AQV (G:Nat->AV)(a b:List Gl)(s t:SM)(h:Hp)(ha:a.length<=1048576)(hb:∀g∈a,g.bins.length<=1048576):PCall (En G) 28 [.sl s 3 (a.map UQ),.sl t 3 (b.map UQ)] h (.bool (eqH a b)):=by
 refine acN Tryz.func28 rfl ?_;show awp _ _ _ _ _ (EN _ [.tmp 4] _);simp -implicitDefEqProofs only[BC,BA,BI,A8,AY,BB,AO,AQ,AL,BD,AX,AC,AA,AZ,AU,BM,BG,A7,BR,DZ,AB,EK,BF,BN,↓reduceIte,jA,jB,jC,enP,A3M,jI];refine CV (fun h1=>?_) (fun h1=>?_)
 .simp -implicitDefEqProofs only[BC,BA,BK,A8,CP,CG,AY,BB,AO,AQ,AL,BD,AX,AC,AA,AU,BM,A7,↓reduceIte,jB,jC]
  have:eqH a b=false:=by
   rw[<-qO]; intro e;have:=AP1 e;simp [this] at h1
  exact⟨by rw[this],trivial⟩
 have hab:a.length=b.length:=by simp at h1; omega
 simp -implicitDefEqProofs only[BC,BP,BA,BO,A8,AY,BB,AO,AQ,AL,BD,AX,AC,AU,BH,A7,jB,jC];refine DK (fun n F H=>∃i,n+i=a.length∧F 0=.sl s 3 (a.map UQ)∧F 1=.sl t 3 (b.map UQ)∧F 5=.int .i64 (i:Nat)∧H=h∧eqH a b=eqH (a.drop i) (b.drop i)) a.length ⟨0,by simp,by simp -implicitDefEqProofs only[AA,BF,↓reduceIte,jA],by simp -implicitDefEqProofs only[AA,BF,BN,↓reduceIte,jA],by simp -implicitDefEqProofs only[AA,↓reduceIte]; rfl,rfl,rfl⟩ ?_;rintro n F H ⟨i,hi,f0,f1,f5,rfl,he⟩;simp -implicitDefEqProofs only[BC,BA,BI,A8,AY,BB,AO,AQ,AL,BD,AX,AC,AA,AZ,BG,BR,DZ,AB,CZ,↓reduceIte,jA,jB,jC,enP,A3M,f0,f5,jI];refine CV (fun hc=>?_) (fun hc=>?_)
 .have hi':i<a.length:=by simpa using hc
  have hib:i<b.length:=by omega
  have hbl:=hb _ (jQ hi');rw[zK hi',zK hib] at he;have he':eqH a b=(eqG a[i] b[i]&&eqH (a.drop (i+1)) (b.drop (i+1))):=he;simp -implicitDefEqProofs only[BC,BP,BO,A8];refine E8 (by kernel_rfl) ?_;simp -implicitDefEqProofs only[F6,EH,DT,EI,FN,GI,FT,FH,I4,D9,EF,CO,AO,AA,AZ,BQ,BR,BJ,CE,AB,↓reduceIte,jA,jM,jK,jB,enP,bn4,AUL,APZ,bne,f0,f1,f5,DU hi',DU hib,DF ag4 hi',DF ag4 hib,A30];cases c1:(a[i].cross==b[i].cross)
  .simp -implicitDefEqProofs only[F6,EH,DT,FB,EI,FN,GI,AAH,FT,I5,BC,BA,BK,BI,A8,CP,EE,FQ,CG,DI,AY,BB,CO,AO,AQ,AL,BD,AX,AC,AA,EW,AZ,AU,BM,A7,CQ,DY,↓reduceIte,jA,jM,jB,jC]
   exact⟨by rw[he']; unfold eqG; rw[c1]; rfl,trivial⟩
  simp -implicitDefEqProofs only[F6,EH,DT,EI,FN,GI,UW,FT,I5,FH,I4,D9,EF,CO,AO,AA,AZ,AU,BM,CQ,DW,BQ,BR,BJ,CE,AB,EK,↓reduceIte,jA,jM,jG,jB,jR,enP,AUL,AIU,bne,f0,f1,f5,DU hi',DU hib,DF ag3 hi',DF ag3 hib,A3Z];cases c2:((a[i].idx:Int)==(b[i].idx:Int))
  .simp -implicitDefEqProofs only[F6,EH,DT,FB,EI,FN,GI,AAH,I5,BC,BA,BK,BI,A8,CP,EE,FQ,CG,DI,AY,BB,CO,AO,AQ,AL,BD,AX,AC,AA,EW,AZ,AU,BM,A7,CQ,DY,↓reduceIte,jA,jM,jB,jC]
   exact⟨by rw[he']; unfold eqG; rw[c1,c2]; rfl,trivial⟩
  have hg:eqG a[i] b[i]=eqL a[i].bins b[i].bins:=by unfold eqG; rw[c1,c2]; rfl
  rw[hg] at he';simp -implicitDefEqProofs only[F6,EH,DT,FB,EI,FN,GI,UW,FT,I5,FH,I4,D9,EF,IW,BI,A8,CO,AO,AA,AZ,AU,BM,CQ,DW,BQ,BR,BJ,CE,DZ,AB,EK,↓reduceIte,jA,jM,jG,jB,jR,enP,AUL,JD,AIT,bne,f0,f1,f5,DU hi',DU hib,DF KP hi',DF KP hib,AVK,jI];cases c3:((a[i].bins.length:Int)==(b[i].bins.length:Int))
  .simp -implicitDefEqProofs only[BC,BA,BK,A8,CP,EE,FQ,CG,DI,AY,BB,AO,AQ,AL,BD,AX,AC,AA,AU,BM,A7,↓reduceIte,jB,jC]
   have:eqL a[i].bins b[i].bins=false:=by
    unfold eqL; rw[decide_eq_false_iff_not]; intro e; rw[e] at c3; simp at c3
   exact⟨by rw[he',this]; rfl,trivial⟩
  have hbb:a[i].bins.length=b[i].bins.length:=by simp at c3; omega
  simp -implicitDefEqProofs only[BC,BP,BA,BO,A8,DR,AY,BB,AO,AQ,AL,BD,AX,AC,AU,BH,A7,jB,jR,jC];refine GM 2 (fun F' H'=>F' 0=.sl s 3 (a.map UQ)∧F' 1=.sl t 3 (b.map UQ)∧F' 5=.int .i64 (i:Nat)∧H'=H∧eqL a[i].bins b[i].bins=true) (fun F' H'=>F' 4=.bool false∧H'=H∧eqL a[i].bins b[i].bins=false) ?_ ?_ ?_
  .refine DK (fun n F' H'=>∃k,n+k=a[i].bins.length∧F' 0=.sl s 3 (a.map UQ)∧F' 1=.sl t 3 (b.map UQ)∧F' 5=.int .i64 (i:Nat)∧F' 6=.int .i64 (k:Nat)∧H'=H∧eqL a[i].bins b[i].bins=eqL (a[i].bins.drop k) (b[i].bins.drop k)) a[i].bins.length ⟨0,by simp,by simp -implicitDefEqProofs only[AA,↓reduceIte,jA,f0],by simp -implicitDefEqProofs only[AA,↓reduceIte,jA,f1],by simp -implicitDefEqProofs only[AA,↓reduceIte,jA,f5],by simp -implicitDefEqProofs only[AA,↓reduceIte]; rfl,rfl,rfl⟩ ?_
   clear f0 f1 f5;rintro n' F H' ⟨k,hk,f0,f1,f5,f6,rfl,hl⟩;simp -implicitDefEqProofs only[BC,BA,BI,A8,AY,BB,AO,AQ,AL,BD,AX,AC,AA,AZ,BG,BQ,BR,BJ,CE,DZ,AB,CZ,↓reduceIte,jA,jG,jB,jC,enP,AUL,JD,AIT,f0,f5,f6,DU hi',DF KP hi',AVK,jI];refine CV (fun hc=>?_) (fun hc=>?_)
   .have hk':k<a[i].bins.length:=by simpa using hc
    have hkb:k<b[i].bins.length:=by omega
    rw[AEX hk' hkb] at hl;simp -implicitDefEqProofs only[BC,BP,BO,A8];refine E8 (by kernel_rfl) ?_;simp -implicitDefEqProofs only[F6,EH,DT,FB,EI,FT,FH,I4,D9,EF,BI,A8,AO,AA,AZ,BQ,BR,BJ,CE,AB,EK,↓reduceIte,jA,jM,jG,jB,enP,AUL,JF,AIT,f0,f1,f5,f6,DU hi',DU hib,DF KP hi',DF KP hib,AVK,DU hk',DU hkb,DF ag3 hk',DF ag3 hkb,encI0];refine CV (fun hd=>?_) (fun hd=>?_)
    .simp -implicitDefEqProofs only[BC,BA,BK,A8,CP,EE,NM,FQ,AY,BB,AO,AQ,AL,BD,AX,AC,AA,AU,BM,A7,↓reduceIte,jB,jC]
     have:decide (a[i].bins[k]=b[i].bins[k])=false:=by simpa using hd
     exact⟨trivial,trivial,by rw[hl,this]; rfl⟩
    .simp -implicitDefEqProofs only[BA,BO,A8,EJ,EQ,AY,BB,AO,AQ,AL,BD,AX,AC,AA,AZ,AU,BH,BG,A7,BR,AB,C9,↓reduceIte,jA,jB,jC,enP,f6,wrap_succ (show k<9223372036854775807 by omega)]
     have:decide (a[i].bins[k]=b[i].bins[k])=true:=by simpa using hd
     exact⟨n'-1,by omega,k+1,by omega,f0,f1,f5,rfl,trivial,by rw[hl,this]; rfl⟩
   .have hk':¬k<a[i].bins.length:=by simpa using hc
    simp -implicitDefEqProofs only[DJ,EG,KC,ET,AA,↓reduceIte,jA];exact⟨f0,f1,f5,trivial,by rw[hl,jW (by omega),jW (by omega)]; rfl⟩
  .rintro F' H' ⟨g0,g1,g5,rfl,hl⟩
   simp -implicitDefEqProofs only[BA,A8,EJ,EU,EQ,AY,BB,AO,AQ,AL,BD,AX,AC,AA,AZ,AU,BH,BG,A7,BR,AB,C9,↓reduceIte,jA,jB,jC,enP,g5,wrap_succ (show i<9223372036854775807 by omega)];exact⟨n-1,by omega,i+1,by omega,g0,g1,rfl,trivial,by rw[he',hl]; rfl⟩
  .rintro F' H' ⟨g4,rfl,hl⟩
   simp -implicitDefEqProofs only[CP,EE,FQ,CG,g4];exact⟨by rw[he',hl]; rfl,trivial⟩
 .have hi':¬i<a.length:=by simpa using hc
  simp -implicitDefEqProofs only[BC,BA,BK,DJ,A8,EG,EU,ET,CG,AY,BB,AO,AQ,AL,BD,AX,AC,AA,AU,BM,A7,↓reduceIte,jB,jC];exact⟨by rw[he,jW (by omega),jW (by omega)]; rfl,trivial⟩
def mkB (name:ByteArray)(kind lo hi:Int):Bin:=⟨name,kind,⟨.full,[⟨lo,hi⟩]⟩,.nil,[]⟩
theorem A4T (a b:Int):LQ Tryz.prog 185 [(0,.int .i64 a),(1,.int .i64 b)]=some (.agg [.int .i64 a,.int .i64 b]):=by kernel_rfl
theorem A4D (h:Hp)(a b:Int):FO Tryz.prog false h 118 1 [(0,.agg [.int .i64 a,.int .i64 b])]=some (.sl .full 2 [[.int .i64 a,.int .i64 b]],h):=by kernel_rfl
theorem A6B (s:ByteArray)(k:Int)(xs:List (List AV)):LQ Tryz.prog 121 [(0,.str s),(1,.int .i64 k),(2,.sl .full 2 xs)]=some (.agg [.str s,.int .i64 k,.sl .full 2 xs,.sl .nil 0 []]):=by kernel_rfl
def rowB (s:ByteArray)(k lo hi:Int):List AV:=[.str s,.int .i64 k,.sl .full 2 [[.int .i64 lo,.int .i64 hi]],.sl .nil 0 []]
theorem A2U (h:Hp)(s:ByteArray)(k lo hi:Int)(row:List AV)(hr:row.length=4):FX Tryz.prog (h++[.live 4 [row]]) 121 (.ptr h.length 0 0) (.agg [.str s,.int .i64 k,.sl .full 2 [[.int .i64 lo,.int .i64 hi]],.sl .nil 0 []])=some (h++[.live 4 [rowB s k lo hi]]):=by
 have h1:=MX (P:=Tryz.prog) (t:=121) (h:=h) (k:=4) (j:=0) (row:=row) (cs:=rowB s k lo hi) (v:=.agg (rowB s k lo hi)) rfl QR (by rw[hr]; exact jL 4);have h2:splice row 0 (rowB s k lo hi)=rowB s k lo hi:=by unfold splice; simp [hr,rowB]
 rw[h2] at h1;exact h1
theorem AJA (G:Nat->AV)(s:ByteArray)(k lo hi:Int)(h:Hp):PCall (En G) 145 [.str s,.int .i64 k,.int .i64 lo,.int .i64 hi] h (.agg (GV (mkB s k lo hi))):=by
 have hp:PCall (En G) 145 [.str s,.int .i64 k,.int .i64 lo,.int .i64 hi] h (.agg (rowB s k lo hi)):=by
  refine ACalls.pure 2 (R:=fun v H=>v=.agg (rowB s k lo hi)∧∃x,H=h++x) ?_ (fun v h' ⟨e,x⟩=>⟨x,by subst e; rfl⟩);refine acN Tryz.func145 rfl ?_;show awp _ _ _ _ _ (EN _ [.cell 8 121] _);simp -implicitDefEqProofs only[EZ,FW,BC,BA,BK,A8,AY,BB,AO,AQ,AL,BD,AX,AC,EM,AA,AZ,BG,EX,IV,EP,D6,BX,AB,CY,BF,BN,↓reduceIte,jA,jB,jC,enP,jP,AZX,A4T,A4D,A6B,A2U _ _ _ _ _ [.str ⟨#[]⟩,.int .i64 0,.sl .nil 0 [],.sl .nil 0 []] rfl];refine⟨trivial,.agg (rowB s k lo hi),?_,rfl,_,rfl⟩;exact XK (P:=Tryz.prog) (h:=h) (k:=4) (row:=rowB s k lo hi) VK QR (jL 4)
 exact hp.res (CvR.agg (CvRL.cons (CvR.refl _) (CvRL.cons (CvR.refl _) (CvRL.cons (CvR.refl _) (CvRL.cons (CvR.sl (Cv.nil 0 1)) CvRL.nil)))))
def A3W:Ex:=.mk 2 0 ⟨#[97]⟩ .nil []
def exP:Pt:=⟨⟨#[112]⟩,A3W,.full,[mkB ⟨#[108,111,119]⟩ 0 0 3,mkB ⟨#[104,105,103,104]⟩ 0 4 7,mkB ⟨#[110,111,110,101]⟩ 1 9 9]⟩
def exM:Mo:=⟨.full,[exP],.nil,[]⟩
def exV:Cvr:=⟨.full,[⟨.full,[3,0,0]⟩],.nil,[],3,0⟩
theorem AY7:UJ exM=2:=by decide +kernel
theorem AU8:QP exM exV=1:=by decide +kernel
theorem AY5:AKR exM exV=50:=by decide +kernel
theorem A6D (n:Int)(s:ByteArray):LQ Tryz.prog 53 [(0,.int .i64 n),(2,.str s)]=some (.agg [.int .i64 n,.int .i64 0,.str s,.sl .nil 0 []]):=by kernel_rfl
theorem A58 (h:Hp)(a b c:Bin):FO Tryz.prog false h 54 3 [(0,.agg (GV a)),(1,.agg (GV b)),(2,.agg (GV c))]=some (.sl .full 4 [GV a,GV b,GV c],h):=by
 have h1:Tryz.prog.underlying 54=some (.slice 121):=by kernel_rfl
 have h3:TW Tryz.prog 121=some 4:=by kernel_rfl
 unfold FO;simp only[h1,QR,h3];have h2:V6 4 0 [(0,AV.agg (GV a)),(1,AV.agg (GV b)),(2,AV.agg (GV c))]=some [GV a,GV b,GV c]:=rfl;have fr:∀x:Bin,(GV x).all AV.frozen=true:=fun _=>rfl
 simp [h2,fr]
theorem A6C (s t:ByteArray)(n:Int)(xs:List (List AV)):LQ Tryz.prog 56 [(0,.str s),(1,.agg [.int .i64 n,.int .i64 0,.str t,.sl .nil 0 []]),(2,.sl .full 4 xs)]=some (.agg [.str s,.int .i64 n,.int .i64 0,.str t,.sl .nil 0 [],.sl .full 4 xs]):=by kernel_rfl
theorem A4I (h:Hp)(s t:ByteArray)(n:Int)(xs:List (List AV)):FO Tryz.prog false h 22 1 [(0,.agg [.str s,.int .i64 n,.int .i64 0,.str t,.sl .nil 0 [],.sl .full 4 xs])]=some (.sl .full 6 [[.str s,.int .i64 n,.int .i64 0,.str t,.sl .nil 0 [],.sl .full 4 xs]],h):=by kernel_rfl
theorem A6F (xs:List (List AV)):LQ Tryz.prog 25 [(0,.sl .full 6 xs)]=some (.agg [.sl .full 6 xs,.sl .nil 0 []]):=by kernel_rfl
theorem A4Y (h:Hp):KQ Tryz.prog h 25=some (.ptr h.length 0 0,h++[.live 2 [[.sl .nil 0 [],.sl .nil 0 []]]]):=KE (row:=[.sl .nil 0 [],.sl .nil 0 []]) (by kernel_rfl)
def AAT:List AV:=[.sl .full 6 [[.str ⟨#[112]⟩,.int .i64 2,.int .i64 0,.str ⟨#[97]⟩,.sl .nil 0 [],.sl .full 4 (exP.bins.map GV)]],.sl .nil 0 []]
theorem A2X (h:Hp)(row:List AV)(hr:row.length=2):FX Tryz.prog (h++[.live 2 [row]]) 25 (.ptr h.length 0 0) (.agg AAT)=some (h++[.live 2 [AAT]]):=by
 have h1:=MX (P:=Tryz.prog) (t:=25) (h:=h) (k:=2) (j:=0) (row:=row) (cs:=AAT) (v:=.agg AAT) rfl AXE (by rw[hr]; exact jL 2);have h2:splice row 0 AAT=AAT:=by unfold splice; simp [hr,AAT]
 rw[h2] at h1;exact h1
theorem AQY:CvR (.agg AAT) (.agg (D5 exM)):=by
 refine CvR.agg (CvRL.cons (CvR.sl (Cv.rows rfl ?_)) (CvRL.cons (CvR.sl (Cv.nil 0 3)) CvRL.nil));intro i r r' h1 h2
 match i,h1,h2 with
 | 0,h1,h2 =>
   cases h1; cases h2;exact CvRow.cons rfl (Cv.refl _) (CvRow.cons rfl (Cv.refl _) (CvRow.cons rfl (Cv.refl _) (CvRow.cons rfl (Cv.refl _) (CvRow.cons rfl (Cv.nil 0 4) (CvRow.cons rfl (Cv.refl _) CvRow.nil)))))
 | _+1,h1,_=>cases h1
theorem sample (G:Nat->AV)(h:Hp):PCall (En G) 84 [] h (.agg (D5 exM)):=by
 have hp:PCall (En G) 84 [] h (.agg AAT):=by
  refine ACalls.pure 2 (R:=fun v H=>v=.agg AAT∧∃x,H=h++x) ?_ (fun v h' ⟨e,x⟩=>⟨x,by subst e; rfl⟩);refine acN Tryz.func84 rfl ?_;show awp _ _ _ _ _ (EN _ [.cell 0 25] _);simp -implicitDefEqProofs only[EZ,FW,BC,BA,A8,AY,BB,AO,AQ,AL,BD,AX,AC,AU,BZ,BH,JL,EX,IV,CB,BU,BX,AB,jD,jE,jF,jB,jC,enP,A4Y,A6D];refine(AJA G _ _ _ _ _).use ?_;simp -implicitDefEqProofs only[AY,AO,AQ,AL,BD,AX,AC,AU,BZ,BH,JL,CB,BU,jD,jE,jF,jB,jC];refine(AJA G _ _ _ _ _).use ?_;simp -implicitDefEqProofs only[AY,AO,AQ,AL,BD,AX,AC,AU,BZ,BH,JL,CB,BU,jD,jE,jF,jB,jC];refine(AJA G _ _ _ _ _).use ?_;simp -implicitDefEqProofs only[EZ,FW,AY,AO,AQ,AL,BD,AX,AC,AA,AZ,AU,JL,IV,EP,D6,BX,AB,↓reduceIte,jA,jB,jC,enP,jP,A58,A6C,A4I,A6F]
  refine H9 (v:=IQ) (h:=h++[.live 2 [AAT]]) (by
   have:=A2X h [.sl .nil 0 [],.sl .nil 0 []] rfl
   exact congrArg ofS this) ?_
  simp -implicitDefEqProofs only[BK,A8,BB,EM];refine⟨trivial,.agg AAT,?_,rfl,_,rfl⟩;exact XK (P:=Tryz.prog) (h:=h) (k:=2) (row:=AAT) A44 AXE (jL 2)
 exact hp.res AQY
theorem AIV:MoOk exM:=⟨by decide,by decide,fun p hp=>by
 simp only[exM,List.mem_singleton] at hp;subst hp
 exact⟨by decide +kernel,by decide,by decide,fun b hb=>by
  simp only[exP,List.mem_cons,List.not_mem_nil,or_false] at hb
  rcases hb with rfl|rfl|rfl<;>exact⟨by decide,by decide,by decide,by decide⟩⟩,fun c hc=>by cases hc⟩
theorem ANG:CvOk exV:=⟨by decide,by decide,by decide,by decide⟩
def QS:List AV:=[.sl .full 1 [[.sl .full 1 [[.int .i64 3],[.int .i64 0],[.int .i64 0]]]],.sl .nil 0 [],.int .i64 3,.int .i64 0]
theorem ANH:CvR (.agg QS) (.agg (ER exV)):=CvR.agg (CvRL.cons (CvR.refl _) (CvRL.cons (CvR.sl (Cv.nil 0 1)) (CvRL.cons (CvR.refl _) (CvRL.cons (CvR.refl _) CvRL.nil))))
theorem A19 (h:Hp)(a b c:Int):FO Tryz.prog false h 57 3 [(0,.int .i64 a),(1,.int .i64 b),(2,.int .i64 c)]=some (.sl .full 1 [[.int .i64 a],[.int .i64 b],[.int .i64 c]],h):=by kernel_rfl
theorem A2B (h:Hp)(xs:List (List AV)):FO Tryz.prog false h 26 1 [(0,.sl .full 1 xs)]=some (.sl .full 1 [[.sl .full 1 xs]],h):=by kernel_rfl
theorem A2D (xs:List (List AV))(n:Int):LQ Tryz.prog 28 [(0,.sl .full 1 xs),(2,.int .i64 n)]=some (.agg [.sl .full 1 xs,.sl .nil 0 [],.int .i64 n,.int .i64 0]):=by kernel_rfl
theorem A6L (h:Hp):KQ Tryz.prog h 28=some (.ptr h.length 0 0,h++[.live 4 [[.sl .nil 0 [],.sl .nil 0 [],.int .i64 0,.int .i64 0]]]):=KE (row:=[.sl .nil 0 [],.sl .nil 0 [],.int .i64 0,.int .i64 0]) (by kernel_rfl)
theorem A2W (h:Hp)(row:List AV)(hr:row.length=4):FX Tryz.prog (h++[.live 4 [row]]) 28 (.ptr h.length 0 0) (.agg QS)=some (h++[.live 4 [QS]]):=by
 have h1:=MX (P:=Tryz.prog) (t:=28) (h:=h) (k:=4) (j:=0) (row:=row) (cs:=QS) (v:=.agg QS) rfl ACK (by rw[hr]; exact jL 4);have h2:splice row 0 QS=QS:=by unfold splice; simp [hr,QS]
 rw[h2] at h1;exact h1
theorem A5K (h:Hp)(m:Mo)(row:List AV)(hr:row.length=2):FX Tryz.prog (h++[.live 2 [row]]) 25 (.ptr h.length 0 0) (.agg (D5 m))=some (h++[.live 2 [D5 m]]):=by
 rw[MX (TV rfl) (by rw[Z5]; exact AXE) (by rw[Z5,hr]; exact jL _)];have:splice row 0 (D5 m)=D5 m:=by unfold splice; simp [Z5,hr]
 rw[this]
theorem ldR {h:Hp}{b:Nat}(hb:h[b]?=some (.live 4 [QS])):ED Tryz.prog h 28 (.ptr b 0 0)=some (.agg QS):=by
 rw[J4 AWP ACK hb rfl (jL 4)]; rfl
theorem A4N (xs:List (List AV)):LQ Tryz.prog 106 [(2,.sl .full 1 xs)]=some (.agg [.bool false,.int .i64 0,.sl .full 1 xs]):=by kernel_rfl
theorem A4G (h:Hp)(xs:List (List AV)):FO Tryz.prog false h 32 1 [(0,.agg [.bool false,.int .i64 0,.sl .full 1 xs])]=some (.sl .full 3 [[.bool false,.int .i64 0,.sl .full 1 xs]],h):=by kernel_rfl
def exH:Gl:=⟨false,0,.full,[1],0⟩
theorem AU9:eqH (PW exM exV) [exH]=true:=by decide +kernel
theorem AY6:(PW exM exV).length<=1048576:=by decide +kernel
theorem AVA:∀g∈PW exM exV,g.bins.length<=1048576:=by decide +kernel
set_option maxHeartbeats 1000000 in
theorem awake (G:Nat->AV)(hG:GOk G)(hT:OB G)(h:Hp):PCall (En G) 33 [] h (.bool true):=by
 refine ACalls.pure0 rfl ?_;refine acN Tryz.func33 rfl ?_;show awp _ _ _ _ _ (EN _ [.tmp 0] _);simp -implicitDefEqProofs only[BC,BA,A8,AY,BB,AO,AQ,AL,BD,AX,AC,AU,BZ,BM,A7,CB,BU,jE,jF,jB,jC,enP];refine(sample G h).use ?_;have hst:=A2W (h++[ABlk.live 2 [D5 exM]]) [.sl .nil 0 [],.sl .nil 0 [],.int .i64 0,.int .i64 0] rfl;simp -implicitDefEqProofs only[EZ,FW,BC,BA,A8,AY,BB,AO,AQ,AL,BD,AX,AC,EM,AA,AZ,AU,BH,EX,IV,EP,D6,BX,AB,CY,↓reduceIte,jA,jB,jC,enP,jP,A4Y,A5K h exM [.sl .nil 0 [],.sl .nil 0 []] rfl,A19,A2B,A2D,A6L];refine H9 (v:=IQ) (h:=h++[ABlk.live 2 [D5 exM]]++[ABlk.live 4 [QS]]) (by exact congrArg ofS hst) ?_;have gm:(h++[ABlk.live 2 [D5 exM]]++[ABlk.live 4 [QS]])[h.length]?=some (.live 2 [D5 exM]):=CU (CX _ _);have gr:=CX (h++[ABlk.live 2 [D5 exM]]) (.live 4 [QS]);have hx:∃x,h++[ABlk.live 2 [D5 exM]]++[ABlk.live 4 [QS]]=h++x:=⟨_,zA _ _ _⟩;simp -implicitDefEqProofs only[BC,BA,A8,AY,BB,AO,AQ,AL,BD,AX,EM,AA,AZ,BQ,↓reduceIte,jA,jB,jC,enP]
 generalize h++[ABlk.live 2 [D5 exM]]++[ABlk.live 4 [QS]]=H at gm gr hx|-
 generalize (h++[ABlk.live 2 [D5 exM]]).length=rb at gr|-
 have cv:CvRL [.agg (D5 exM),.agg QS] [.agg (D5 exM),.agg (ER exV)]:=CvRL.cons (CvR.refl _) (CvRL.cons ANH CvRL.nil);have p1:=AGW G hG exM AIV H;rw[AY7] at p1;have p2:=(AD1 G hG hT exM exV AIV ANG H).args cv;rw[AU8] at p2;have p3:=(AQ5 G hG hT exM exV AIV ANG H).args cv;rw[AY5] at p3;have p4:=(ANA G hG hT exM exV AIV ANG H).args cv;have p5:=AQV G (PW exM exV) [exH] (nm (PW exM exV)) .full H AY6 AVA;rw[AU9] at p5;have c1:(((2:Nat):Int)==2)=true:=rfl;have c2:(((1:Nat):Int)==1)=true:=rfl;have c3:(((50:Nat):Int)==50)=true:=rfl;simp -implicitDefEqProofs only[AY,AO,AQ,AL,BD,AX,AC,AA,AZ,BZ,CB,BU,AB,jD,jE,jF,↓reduceIte,jB,jC,ldM gm];refine p1.use ?_;simp -implicitDefEqProofs only[AY,BL,BV,CO,GH,AO,AQ,AL,BD,AX,AC,AA,AZ,AU,BZ,BH,BG,BQ,BR,CB,BU,AB,D7,jD,jE,jF,↓reduceIte,jA,jB,jC,enP,c1,ldM gm,ldR gr];refine p2.use ?_;simp -implicitDefEqProofs only[AY,BL,BV,CO,GH,AO,AQ,AL,BD,AX,AC,AA,AZ,AU,BZ,BH,BM,BG,CQ,DY,BQ,BR,CB,BU,AB,D7,jD,jE,jF,↓reduceIte,jA,jB,jC,enP,c2,ldM gm,ldR gr];refine p3.use ?_;simp -implicitDefEqProofs only[AY,BL,BV,CO,GH,AO,AQ,AL,BD,AX,AC,AA,AZ,AU,BZ,BH,BM,BG,CQ,DY,BQ,BR,CB,BU,AB,D7,jD,jE,jF,↓reduceIte,jA,jB,jC,enP,c3,ldM gm,ldR gr];refine p4.use ?_;simp -implicitDefEqProofs only[EZ,FW,BL,BV,CO,GH,AO,AQ,AL,BD,AX,AC,AA,AZ,AU,BZ,BH,IV,EP,CB,BU,BX,AB,jD,jE,jF,↓reduceIte,jA,jB,jC,enP,AE8,A4N,A4G];refine PCall.use (r:=.bool true) p5 ?_;simp -implicitDefEqProofs only[BK,A8,CG,AY,BB,AO,AQ,AL,BD,AX,AC,AA,AZ,AU,BM,A7,CQ,DY,↓reduceIte,jA,jB,jC];exact⟨trivial,hx⟩
end Go.Proofs.YtocilianjfhifaaGreatDoor.Cov
