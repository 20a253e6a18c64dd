/- Part 2 of the proof (Sm8, Sm9, Sm10); no condition. -/
import Derived.Laws.BytesString
import Derived.Still
import Derived.Test.YtocilianjfhifaaGreatDoorV1
set_option linter.unusedVariables false
/- The abstract operation of a statement's step, and that it is what the model does; no condition. -/
namespace Go.Proofs.YtocilianjfhifaaGreatDoor.Sm
open Go

/- rows of a block overwritten -/
theorem ZK {E:Env} {g:Gh} {h:List ABlk} {w:World} {b k at_:Nat} {B zs:List (List AV)} {l:Loc} {ds:List Value} (S:SimH E g h w) (hb:h[b]? = some (.live k B)) (hl:g.μ b=some l)
  (hF:Flat g k zs ds) (hle:at_+zs.length≤B.length) :
  ∃ w',(storeCells ⟨l.cb,l.co+at_ * k,none⟩ ds).run E.P w = .ok () w'∧SimH E g (h.set b (.live k (B.take at_ ++ zs ++ B.drop (at_+zs.length)))) w':=by
 obtain ⟨l',c,e,q1,q2,q3,q4,q5,q6,q7,q8⟩:=S.live b k B hb
 rw [hl] at q1; cases q1
 subst q2
 have hmul:(at_+zs.length) * l.k≤B.length * l.k:=Nat.mul_le_mul_right _ hle
 rw [Nat.add_mul] at hmul
 have hfl:=hF.len
 obtain ⟨w',c',hrun,hW⟩:=MM E.P l.cb (l.co+at_ * l.k) e ds 0 w c q4 (by omega) hF.one
 refine ⟨w',hrun,S.write hb hl hW q5 ⟨?_,?_,?_⟩⟩
 ·rw [hW.size,q5]
  have:(B.take at_ ++ zs ++ B.drop (at_+zs.length)).length=B.length:=by simp; omega
  rw [this]; exact q6
 all_goals
  have split : ∀ i row,(B.take at_ ++ zs ++ B.drop (at_+zs.length))[i]? = some row→(B[i]? = some row∧(i < at_∨at_+zs.length≤i))∨(at_≤i∧zs[i - at_]? = some row):=by
   intro i row hr
   rw [List.append_assoc,List.getElem?_append] at hr
   simp only [List.length_take,Nat.min_eq_left (show at_≤B.length by omega)] at hr
   split at hr
   ·rename_i hi
    rw [List.getElem?_take,if_pos hi] at hr
    exact .inl ⟨hr,.inl hi⟩
   ·rename_i hi
    rw [List.getElem?_append] at hr
    split at hr
    ·exact .inr ⟨by omega,hr⟩
    ·rename_i hj
     rw [List.getElem?_drop] at hr
     have:at_+zs.length+(i - at_ - zs.length)=i:=by omega
     rw [this] at hr
     exact .inl ⟨hr,.inr (by omega)⟩
 ·intro i row hr
  rcases split i row hr with ⟨h1,_⟩ | ⟨_,h1⟩
  ·exact q7 i row h1
  ·exact hF.rows _ row h1
 ·intro i j row v hr hv
  rcases split i row hr with ⟨h1,h2⟩ | ⟨h1,h2⟩
  ·obtain ⟨cv,s1,s2⟩:=q8 i j row v h1 hv
   refine ⟨cv,?_,s2⟩
   have hj:j < l.k:=(q7 i row h1).1 ▸ CE hv
   rw [hW.cells,if_neg]
   ·exact s1
   ·rw [hfl]
    intro hh
    rcases h2 with h2 | h2
    ·have:=Nat.mul_le_mul_right l.k (show i+1≤at_ by omega)
     rw [Nat.add_mul,Nat.one_mul] at this; omega
    ·have:=Nat.mul_le_mul_right l.k h2
     rw [Nat.add_mul] at this; omega
  ·obtain ⟨cv,s1,s2⟩:=hF.get _ j row v h2 hv
   refine ⟨cv,?_,s2⟩
   have hlt:=CE s1
   have e1:i * l.k=at_ * l.k+(i - at_) * l.k:=by rw [← Nat.add_mul]; congr 1; omega
   rw [hW.cells,if_pos (by omega),← s1]
   congr 1; omega

def PO (B:List (List AV)) (at_:Nat) (zs:List (List AV)):List (List AV):=B.take at_ ++ zs ++ B.drop (at_+zs.length)

theorem Flat.take {g:Gh} {k n:Nat} {xs:List (List AV)} {cs:List Value} (h:Flat g k xs cs):Flat g k (xs.take n) (cs.take (n * k)) where
 len:=by simp [h.len]
 rows i row hr:=by
  rw [List.getElem?_take] at hr
  split at hr
  ·exact h.rows i row hr
  ·cases hr
 get i j row v hr hv:=by
  rw [List.getElem?_take] at hr
  split at hr
  ·rename_i hi
   obtain ⟨cv,a,b⟩:=h.get i j row v hr hv
   refine ⟨cv,?_,b⟩
   have hj:j < k:=(h.rows i row hr).1 ▸ CE hv
   have:=Nat.mul_le_mul_right k (show i+1≤n by omega)
   rw [Nat.add_mul,Nat.one_mul] at this
   rw [List.getElem?_take,if_pos (by omega)]; exact a
  ·cases hr
 one c hc:=h.one c (List.mem_of_mem_take hc)

def ADS (P:Program) (h:List ABlk) (t:TypeId) (d s:AV):Option (AV × List ABlk) :=
 match P.underlying t with
 | some (.slice e)=>match szO P e with
   | some k=>match JL h s with
     | some (k',ys)=>match d with
       | .own b off len=>match h[b]? with
         | some (.live k0 B)=>if k0=k∧(k'=k∨ys.length=0)∧off+len≤B.length then some (.int .i64 (min ys.length len),h.set b (.live k (PO B off (ys.take (min ys.length len))))) else none
         | _=>none
       | .sl .nil _ _=>some (.int .i64 0,h)
       | _=>none
     | none=>none
   | none=>none
 | _=>none

theorem AJX {E:Env} {g:Gh} {h h':List ABlk} {w:World} {t t1 ty:TypeId} {d s r:AV} {cd cs:Value} (S:SimH E g h w) (ha:ADS E.P h t d s=some (r,h')) (hd:Rep g d cd) (hs:Rep g s cs) :
  ∃ c w' g',(Builtin.copy_ #[t,t1] ty #[cd,cs]).run E.P w = .ok c w'∧Rep g' r c∧g.le g'∧SimH E g' h' w':=by
 unfold ADS at ha
 split at ha
 case h_2=>cases ha
 rename_i e hu
 split at ha
 case h_2=>cases ha
 rename_i k hk
 split at ha
 case h_2=>cases ha
 rename_i k' ys hc
 obtain ⟨p,cap,rfl,hcap,hp⟩:=O8 S hs hc
 split at ha
 ·rename_i b off len
  split at ha
  case h_2=>cases ha
  rename_i k0 B hb
  split at ha
  case isFalse=>cases ha
  rename_i hcc
  obtain ⟨rfl,hkk,hlB⟩:=hcc
  cases ha
  -- the cells read
  have hsrc : ∃ ds,Flat g k0 (ys.take (min ys.length len)) ds∧(Builtin.firstCells k0 (min ys.length len) (.slice p ys.length cap)).run E.P w = .ok ds.toArray w:=by
   rcases hp with ⟨rfl,rfl,rfl⟩ | ⟨ad,cs,rfl,hF,hcells⟩
   ·exact ⟨[],by simp [Flat.nil],by simp [Builtin.firstCells]⟩
   ·have hF':Flat g k0 ys cs:=by
     rcases hkk with h0 | h0
     ·rw [← h0]; exact hF
     ·have:ys = []:=List.eq_nil_of_length_eq_zero h0
      subst this
      have:cs = []:=List.eq_nil_of_length_eq_zero (by rw [hF.len]; simp)
      subst this
      exact Flat.nil g k0
    have hT:=hF'.take (n:=min ys.length len)
    refine ⟨_,hT,run_firstCells_some w k0 (min ys.length len) ad _ cap _ ?_ fun j v hj => ?_⟩
    ·rw [hT.len]; simp

    ·rw [List.getElem?_take] at hj
     split at hj
     ·exact hcells j v hj
     ·cases hj
  obtain ⟨ds,hFd,hrunF⟩:=hsrc
  have hmin:Nat.min ys.length len=min ys.length len:=rfl
  have hlenT:(ys.take (min ys.length len)).length=min ys.length len:=by simp
  rcases hd.own_inv with ⟨l,cap',q1,q2,q3,rfl⟩ | ⟨h0,q,rfl⟩
  ·obtain ⟨l',c,e',p1,p2,_⟩:=S.live b k0 B hb
   rw [q1] at p1; cases p1
   obtain ⟨w',hrun,S'⟩:=ZK S hb q1 hFd (at_:=off) (by rw [hlenT]; omega)
   refine ⟨.int .i64 ((min ys.length len:Nat):Int),w',g,?_,?_,Gh.le.refl g,S'⟩
   ·simp [Builtin.copy_,CV hu,FE hk,Builtin.lenOf,hmin,hrunF,p2,hrun,goInt]
   ·have:((min ys.length len:Nat):Int)=min (ys.length:Int) (len:Int):=by omega
    rw [this]; exact .int _ _ _
  ·subst h0
   have hds:ds = []:=List.eq_nil_of_length_eq_zero (by rw [hFd.len]; simp)
   subst hds
   refine ⟨.int .i64 0,w,g,?_,?_,Gh.le.refl g,?_⟩
   ·have hm0:Nat.min ys.length 0=0:=by simp
    have hm1:min ys.length 0=0:=by simp
    rw [hm1] at hrunF
    simp [Builtin.copy_,CV hu,FE hk,Builtin.lenOf,hrunF,storeCells,goInt]
   ·have:min (ys.length:Int) ((0:Nat):Int)=0:=by omega
    rw [this]; exact .int _ _ _
   ·have e0:PO B off (ys.take (min ys.length 0))=B:=by simp [PO]
    rw [e0]
    have:h.set b (.live k0 B)=h:=by
     apply List.ext_getElem?
     intro j
     rw [List.getElem?_set]
     split
     ·rename_i hj; subst hj; split <;> rename_i hlt
      ·exact hb.symm
      ·rw [List.getElem?_eq_none (by omega)]
     ·rfl
    rw [this]; exact S
 ·rename_i k2 xs2
  cases ha
  cases hd.sl_inv with
  | empty _ _ _ _ h1=>exact absurd rfl h1
  | sl _ _ _ _ _ _ _ _ _ _ _ h1=>exact absurd rfl h1
  | nil =>
    have hf0 : ∃ arr,(Builtin.firstCells k 0 (.slice p ys.length cap)).run E.P w = .ok arr w:=by
     cases p <;> simp [Builtin.firstCells,loadCells,loadCellsFrom]
    obtain ⟨arr,hf0⟩:=hf0
    refine ⟨.int .i64 0,w,g,?_,.int _ _ _,Gh.le.refl g,S⟩
    simp [Builtin.copy_,CV hu,FE hk,Builtin.lenOf,hf0,goInt]
 ·cases ha

def AKC (P:Program) (h:List ABlk) (t:TypeId) (d:AV):Option (AV × List ABlk) :=
 match P.underlying t with
 | some (.slice e)=>match L8 P e with
   | some zr=>match d with
     | .own b off len=>match h[b]? with
       | some (.live k B)=>if k=zr.length∧off+len≤B.length then some (HV,h.set b (.live k (PO B off (List.replicate len zr)))) else none
       | _=>none
     | .sl _ _ xs=>if xs.length=0 then some (HV,h) else none
     | _=>none
   | none=>none
 | _=>none

theorem AIL {g:Gh} {zr:List AV} {z:Value} (n:Nat) (h1:z.cells.size=zr.length) (h2 : ∀ (j:Nat) (x:AV),zr[j]? = some x→x.leaf=true)
  (h3 : ∀ (j:Nat) (x:AV) (c:Value),zr[j]? = some x→z.cells[j]? = some c→Rep g x c∧c.oneCell'=true):Flat g zr.length (List.replicate n zr) (Builtin.zeroCells z.cells n).toList:=by
 have hcell : ∀ m,m < n * zr.length→∃ hm:m % zr.length < z.cells.size,(Builtin.zeroCells z.cells n).toList[m]? = some (z.cells[m % zr.length]'hm):=by
  intro m hm
  have hkp:0 < zr.length:=by rcases Nat.eq_zero_or_pos zr.length with h0 | h0; · rw [h0] at hm; simp at hm
                             ·exact h0
  have hmz:=Nat.mod_lt m hkp
  refine ⟨by omega,?_⟩
  simp only [Builtin.zeroCells,Array.toList_map,List.getElem?_map,Array.getElem?_toList]
  simp [h1,hm]
  rw [getElem!_pos _ _ (by omega)]
 refine ⟨by simp [K4,h1],?_,?_,?_⟩
 ·intro a row hr
  rw [List.getElem?_replicate] at hr
  split at hr <;> simp at hr
  subst hr
  exact ⟨rfl,h2⟩
 ·intro a j row v hr hv
  have ha:=CE hr
  simp at ha
  rw [List.getElem?_replicate,if_pos ha] at hr
  cases hr
  have hj:=CE hv
  have hlt:a * zr.length+j < n * zr.length:=by
   have:=Nat.mul_le_mul_right zr.length (show a+1≤n by omega)
   rw [Nat.add_mul,Nat.one_mul] at this; omega
  obtain ⟨hm,h4⟩:=hcell _ hlt
  refine ⟨_,h4,(h3 j v _ hv ?_).1⟩
  have:(a * zr.length+j) % zr.length=j:=by rw [Nat.mul_comm,Nat.mul_add_mod,Nat.mod_eq_of_lt hj]
  simp [this]
 ·intro cc hcc
  obtain ⟨m,hm,rfl⟩:=List.getElem_of_mem hcc
  have hm':m < n * zr.length:=by simpa [K4,h1] using hm
  obtain ⟨hmz,h4⟩:=hcell m hm'
  rw [List.getElem?_eq_getElem hm] at h4
  have h5:=Option.some.inj h4
  rw [h5]
  have hzs:m % zr.length < zr.length:=by omega
  exact (h3 (m % zr.length) zr[m % zr.length] _ (by simp) (by simp [hmz])).2

theorem AHU {E:Env} {g:Gh} {h h':List ABlk} {w:World} {t ty:TypeId} {d r:AV} {cd:Value} (S:SimH E g h w) (ha:AKC E.P h t d=some (r,h')) (hd:Rep g d cd) :
  ∃ c w' g',(Builtin.clear_ #[t] ty #[cd]).run E.P w = .ok c w'∧Rep g' r c∧g.le g'∧SimH E g' h' w':=by
 unfold AKC at ha
 split at ha
 case h_2=>cases ha
 rename_i e hu
 split at ha
 case h_2=>cases ha
 rename_i zr hz
 obtain ⟨z,z1,z2,z3,z4⟩:=QV hz
 split at ha
 ·rename_i b off len
  split at ha
  case h_2=>cases ha
  rename_i k B hb
  split at ha
  case isFalse=>cases ha
  rename_i hc
  obtain ⟨rfl,hle⟩:=hc
  cases ha
  have hF:=AIL len z2 z3 (z4 g)
  by_cases hl0:len=0
  ·subst hl0
   have e0:PO B off (List.replicate 0 zr)=B:=by simp [PO]
   have hh:h.set b (.live zr.length B)=h:=by
    apply List.ext_getElem?
    intro j
    rw [List.getElem?_set]
    split
    ·rename_i hj; subst hj; split <;> rename_i hlt
     ·exact hb.symm
     ·rw [List.getElem?_eq_none (by omega)]
    ·rfl
   rw [e0,hh]
   rcases hd.own_inv with ⟨l,cap',q1,q2,q3,rfl⟩ | ⟨h0,q,rfl⟩
   ·exact ⟨undef,w,g,by simp [Builtin.clear_,CV hu]; rfl,Rep.undef g,Gh.le.refl g,S⟩
   ·exact ⟨undef,w,g,by simp [Builtin.clear_,CV hu]; rfl,Rep.undef g,Gh.le.refl g,S⟩
  ·rcases hd.own_inv with ⟨l,cap',q1,q2,q3,rfl⟩ | ⟨h0,q,rfl⟩
   ·obtain ⟨l',c,e',p1,p2,_⟩:=S.live b _ B hb
    rw [q1] at p1; cases p1
    obtain ⟨w',hrun,S'⟩:=ZK S hb q1 hF (at_:=off) (by simpa using hle)
    refine ⟨undef,w',g,?_,Rep.undef g,Gh.le.refl g,S'⟩
    obtain ⟨m,rfl⟩ : ∃ m,len=m+1:=⟨len - 1,by omega⟩
    simp [Builtin.clear_,CV hu,JO z1,p2,hrun]
    rfl
   ·exact absurd h0 hl0
 ·rename_i m k xs
  split at ha
  case isFalse=>cases ha
  rename_i hx
  cases ha
  have hx0:xs = []:=List.eq_nil_of_length_eq_zero hx
  subst hx0
  refine ⟨undef,w,g,?_,Rep.undef g,Gh.le.refl g,S⟩
  cases hd.sl_inv with
  | nil=>simp [Builtin.clear_,CV hu]; rfl
  | empty=>simp [Builtin.clear_,CV hu]; rfl
  | sl _ _ _ _ _ _ _ _ _ _ h1=>exact absurd rfl h1
 ·cases ha

/- a field, a byte -/
def AKB (P:Program) (t:TypeId) (x:AV) (f:Nat):Option AV :=
 match x with
 | .agg cs=>match P.underlying t with
   | some (.struct fields)=>match fields[f]? with
     | some fl=>match JV P fl.type with
       | some true=>match szO P fl.type with
         | some n=>some (.agg ((cs.drop fl.offset).take n))
         | none=>none
       | some false=>cs[fl.offset]?
       | none=>none
     | none=>none
   | _=>none
 | _=>none
theorem AHB {P:Program} {g:Gh} {w:World} {t:TypeId} {x v:AV} {f:Nat} {cx:Value} (ha:AKB P t x f=some v) (hr:Rep g x cx) : ∃ cv,(Instr.field t cx f).run P w = .ok cv w∧Rep g v cv:=by
 unfold AKB at ha
 split at ha
 case h_2=>cases ha
 rename_i cs
 obtain ⟨vs,rfl,h1,h2⟩:=hr.agg_inv
 split at ha
 case h_2=>cases ha
 rename_i fields hu
 split at ha
 case h_2=>cases ha
 rename_i fl hf
 split at ha
 ·rename_i hag
  split at ha
  ·rename_i n hn
   cases ha
   refine ⟨.agg (vs.extract fl.offset (fl.offset+n)),by simp [Instr.field,CV hu,hf,part,KP hag,FE hn,asAgg],.agg _ _ (by simp [h1]; omega) fun i v cv a b => ?_⟩
   rw [List.getElem?_take] at a
   split at a
   ·rw [List.getElem?_drop] at a
    rw [Array.getElem?_extract] at b
    split at b
    ·exact h2 _ v cv a b
    ·cases b
   ·cases a
  ·cases ha
 ·rename_i hag
  have hlt:=CE ha
  have:vs[fl.offset]? = some (vs[fl.offset]'(by omega)):=by simp [h1,hlt]
  exact ⟨_,by simp [Instr.field,CV hu,hf,part,KP hag,asAgg,this],h2 _ v _ ha this⟩
 ·cases ha

def NY (P:Program) (t:TypeId) (x ix:AV):Option AV :=
 match x,ix with
 | .str s,.int _ i=>match P.underlying t with
   | some .string=>if 0≤i then match s[i.toNat]? with
     | some b=>some (.int .u8 b.toNat)
     | none=>none
     else none
   | _=>none
 | .agg cs,.int _ i=>match P.underlying t with
   | some (.array n e)=>match szO P e with
     | some z=>if 0≤i∧i < (n:Int) then match JV P e with
        | some true=>some (.agg ((cs.drop (i.toNat * z)).take z))
        | some false=>cs[i.toNat * z]?
        | none=>none
       else none
     | none=>none
   | _=>none
 | _,_=>none
theorem AGS {P:Program} {g:Gh} {w:World} {t:TypeId} {x ix v:AV} {cx ci:Value} (ha:NY P t x ix=some v) (hr:Rep g x cx) (hi:Rep g ix ci) : ∃ cv,(Instr.index t cx ci).run P w = .ok cv w∧Rep g v cv:=by
 unfold NY at ha
 split at ha
 case h_3=>cases ha
 ·rename_i s k i
  split at ha
  case h_2=>cases ha
  rename_i hu
  split at ha
  case isFalse=>cases ha
  rename_i h0
  split at ha
  case h_2=>cases ha
  rename_i b hb
  cases ha
  rw [hr.str_inv,hi.int_inv]
  exact ⟨.int .u8 b.toNat,by simp [Instr.index,asIntOf,CV hu,h0,hb],.int _ _ _⟩
 ·rename_i cs k i
  obtain ⟨vs,rfl,h1,h2⟩:=hr.agg_inv
  rw [hi.int_inv]
  split at ha
  case h_2=>cases ha
  rename_i n e hu
  split at ha
  case h_2=>cases ha
  rename_i z hz
  split at ha
  case isFalse=>cases ha
  rename_i hb
  split at ha
  ·rename_i hag
   cases ha
   refine ⟨.agg (vs.extract (i.toNat * z) (i.toNat * z+z)),by simp [Instr.index,asIntOf,CV hu,hb,FE hz,part,KP hag],.agg _ _ (by simp [h1]; omega) fun j v cv a b => ?_⟩
   rw [List.getElem?_take] at a
   split at a
   ·rw [List.getElem?_drop] at a
    rw [Array.getElem?_extract] at b
    split at b
    ·exact h2 _ v cv a b
    ·cases b
   ·cases a
  ·rename_i hag
   have hlt:=CE ha
   have:vs[i.toNat * z]? = some (vs[i.toNat * z]'(by omega)):=by simp [h1,hlt]
   exact ⟨_,by simp [Instr.index,asIntOf,CV hu,hb,FE hz,part,KP hag,this],h2 _ v _ ha this⟩
  ·cases ha

/- scalars -/
def aUn (op:UnOp) (x:AV):Option AV :=
 match op,x with
 | .not,.bool b=>some (.bool (!b))
 | .neg,.int k n=>some (.int k (k.wrap (0 - n)))
 | .xor,.int k n=>some (.int k (k.wrap (BitVec.ofInt k.bits (if k.signed then -1 else k.max) ^^^ BitVec.ofInt k.bits n).toNat))
 | _,_=>none
theorem AOQ {P:Program} {g:Gh} {w:World} {op:UnOp} {x v:AV} {cx:Value} (ha:aUn op x=some v) (hr:Rep g x cx) : ∃ cv,(Op.unary op cx).run P w = .ok cv w∧Rep g v cv:=by
 unfold aUn at ha
 split at ha
 ·cases ha; rw [hr.bool_inv]; exact ⟨_,rfl,.bool _ _⟩
 ·cases ha; rw [hr.int_inv]; exact ⟨_,rfl,.int _ _ _⟩
 ·cases ha; rw [hr.int_inv]; exact ⟨_,rfl,.int _ _ _⟩
 ·cases ha
def AMK:List (List AV)→Option (List Int)
 | []=>some []
 | r :: rs=>match r with
   | [.int .u8 n]=>match AMK rs with
     | some ns=>some (n :: ns)
     | none=>none
   | _=>none
/-- the string of these bytes -/
def strOf (ns:List Int):ByteArray:=ns.foldl (fun r n=>r.push (UInt8.ofNat n.toNat)) ByteArray.empty
def QT (P:Program) (s d:TypeId) (x:AV):Option AV :=
 match x with
 | .int _ n=>match P.underlying s,P.underlying d with
   | some _,some (.int k)=>some (.int k (k.wrap n))
   | _,_=>none
 | .str b=>match P.underlying s,P.underlying d with
   | some .string,some .string=>some (.str b)
   | _,_=>none
 | .sl _ k xs=>match P.underlying s,P.underlying d with
   | some (.slice e),some .string=>match P.underlying e with
     | some (.int .u8)=>if k=1 then match AMK xs with
       | some ns=>some (.str (strOf ns))
       | none=>none
       else none
     | _=>none
   | _,_=>none
 | _=>none
theorem AFO {g:Gh} : ∀ {xs:List (List AV)} {ns:List Int} {cs:List Value},AMK xs=some ns→cs.length=xs.length→(∀ (i:Nat) (row:List AV) (v:AV),xs[i]? = some row→row[0]? = some v→∃ cv,cs[i]? = some cv∧Rep g v cv)→cs=ns.map (Value.int .u8)
 | [],ns,cs,h,hl,_=>by
   simp [AMK] at h; subst h
   exact List.length_eq_zero_iff.1 (by simpa using hl)
 | r :: rs,ns,cs,h,hl,hr=>by
   unfold AMK at h
   split at h
   case h_2=>cases h
   rename_i n
   split at h
   case h_2=>cases h
   rename_i ns' hn
   cases h
   cases cs with
   | nil=>simp at hl
   | cons c cs =>
     obtain ⟨cv,h1,h2⟩:=hr 0 _ _ rfl rfl
     simp at h1; subst h1
     have ih:cs=ns'.map (Value.int .u8):=AFO hn (by simpa using hl) (fun i row v a b=>by have:=hr (i+1) row v (by simpa using a) b; simpa using this)
     rw [h2.int_inv,ih]
     rfl
theorem AJY {E:Env} {g:Gh} {h:List ABlk} {w:World} {s d:TypeId} {x v:AV} {cx:Value} (S:SimH E g h w) (ha:QT E.P s d x=some v) (hr:Rep g x cx) : ∃ cv,(convert s d cx).run E.P w = .ok cv w∧Rep g v cv:=by
 unfold QT at ha
 split at ha
 ·split at ha
  ·rename_i k0 n ds k h1 h2
   cases ha; rw [hr.int_inv]
   exact ⟨_,by simp [convert,CV h1,CV h2]; rfl,.int _ _ _⟩
  ·cases ha
 ·split at ha
  ·rename_i b h1 h2
   cases ha; rw [hr.str_inv]
   exact ⟨_,by simp [convert,CV h1,CV h2],.str _ _⟩
  ·cases ha
 ·rename_i m k xs
  split at ha
  case h_2=>cases ha
  rename_i e hs hd
  split at ha
  case h_2=>cases ha
  rename_i he
  split at ha
  case isFalse=>cases ha
  rename_i hk
  subst hk
  split at ha
  case h_2=>cases ha
  rename_i ns hns
  cases ha
  obtain ⟨p,cap,rfl,_,hp⟩:=O8 (k:=1) (xs:=xs) S hr rfl
  refine ⟨.string (strOf ns),?_,.str _ _⟩
  rw [run_convert_bytes_string w s d e _ _ _ hs he hd]
  rcases hp with ⟨rfl,rfl,rfl⟩ | ⟨ad,cs,rfl,hf,hc⟩
  ·simp [AMK] at hns; subst hns
   simp [Conv.bytesToString,strOf]
  ·have hcs:cs=ns.map (Value.int .u8):=AFO (g:=g) hns (by have:=hf.len; omega) (fun i row v a b=>by
    obtain ⟨cv,q1,q2⟩:=hf.get i 0 row v a b
    exact ⟨cv,by simpa using q1,q2⟩)
   have hrun:=run_loadCells_list (P:=E.P) w ad cs (fun i c hci=>hc i c hci)
   rw [hcs] at hrun
   have hl:(ns.map (Value.int .u8)).length=xs.length:=by rw [← hcs]; have:=hf.len; omega
   rw [hl] at hrun
   rw [run_bytesToString w ad xs.length cap ns hrun]
   rfl
 ·cases ha

def JD (P:Program) (t:TypeId) (x:AV):Option AV :=
 match P.underlying t with
 | some .string=>match x with
   | .str s=>some (.int .i64 s.size)
   | _=>none
 | some (.slice _)=>match x with
   | .sl _ _ xs=>some (.int .i64 xs.length)
   | .own _ _ len=>some (.int .i64 len)
   | _=>none
 | some (.array n _)=>some (.int .i64 n)
 | _=>none
theorem AM7 {P:Program} {g:Gh} {w:World} {t ty:TypeId} {x v:AV} {cx:Value} (ha:JD P t x=some v) (hr:Rep g x cx) : ∃ cv,(Builtin.len_ #[t] ty #[cx]).run P w = .ok cv w∧Rep g v cv:=by
 unfold JD at ha
 split at ha
 ·rename_i hu
  split at ha
  ·cases ha; rw [hr.str_inv]; exact ⟨_,by simp [Builtin.len_,CV hu]; rfl,.int _ _ _⟩
  ·cases ha
 ·rename_i e hu
  split at ha
  ·cases ha
   have : ∃ p cap,cx = .slice p (List.length ‹List (List AV)›) cap:=by cases hr.sl_inv <;> exact ⟨_,_,rfl⟩
   obtain ⟨p,cap,rfl⟩:=this
   exact ⟨_,by simp [Builtin.len_,CV hu]; rfl,.int _ _ _⟩
  ·cases ha
   rcases hr.own_inv with ⟨l,cap,_,_,_,rfl⟩ | ⟨h0,q,rfl⟩
   ·exact ⟨_,by simp [Builtin.len_,CV hu]; rfl,.int _ _ _⟩
   ·subst h0; exact ⟨_,by simp [Builtin.len_,CV hu]; rfl,.int _ _ _⟩
  ·cases ha
 ·rename_i n e hu
  cases ha
  exact ⟨_,by simp [Builtin.len_,CV hu]; rfl,.int _ _ _⟩
 ·cases ha

def ADQ:AV→AV→Option AV
 | .int k a,.int k' b=>if k=k' then some (.int k (max a b)) else none
 | _,_=>none
def ADP:AV→AV→Option AV
 | .int k a,.int k' b=>if k=k' then some (.int k (min a b)) else none
 | _,_=>none
def RQ (f:AV→AV→Option AV):AV→List AV→Option AV
 | x,[]=>some x
 | x,y :: r=>match f x y with
   | some z=>RQ f z r
   | none=>none
theorem UX {P:Program} {g:Gh} {w:World} {f:AV→AV→Option AV} {c:Value→Value→Sem Value} (hf : ∀ x y z cx cy,f x y=some z→Rep g x cx→Rep g y cy→∃ cz,(c cx cy).run P w = .ok cz w∧Rep g z cz) :
  ∀ (ys:List AV) (cys:List Value) (x v:AV) (cx:Value),RQ f x ys=some v→Rep g x cx→cys.length=ys.length→(∀ (i:Nat) (y:AV) (cy:Value),ys[i]? = some y→cys[i]? = some cy→Rep g y cy) →
    ∃ cv,(cys.foldlM c cx).run P w = .ok cv w∧Rep g v cv
 | [],cys,x,v,cx,h,hx,hl,_=>by
   cases cys with
   | nil=>simp [RQ] at h; subst h; exact ⟨cx,rfl,hx⟩
   | cons=>simp at hl
 | y :: ys,cys,x,v,cx,h,hx,hl,hr=>by
   cases cys with
   | nil=>simp at hl
   | cons cy cys =>
     simp only [RQ] at h
     cases hz:f x y with
     | none=>simp [hz] at h
     | some z =>
       simp only [hz] at h
       obtain ⟨cz,h1,h2⟩:=hf x y z cx cy hz hx (hr 0 y cy rfl rfl)
       obtain ⟨cv,h3,h4⟩:=UX hf ys cys z v cz h h2 (by simpa using hl) (fun i a b p q=>hr (i+1) a b (by simpa using p) (by simpa using q))
       exact ⟨cv,by simp [List.foldlM_cons,h1,h3],h4⟩
theorem AJA {P:Program} {g:Gh} {w:World} (x y z:AV) (cx cy:Value) (h:ADQ x y=some z) (hx:Rep g x cx) (hy:Rep g y cy) : ∃ cz,(Builtin.max2 cx cy).run P w = .ok cz w∧Rep g z cz:=by
 unfold ADQ at h
 split at h
 ·split at h
  ·cases h
   rw [hx.int_inv,hy.int_inv]
   refine ⟨_,rfl,?_⟩
   rename_i k a k' b _
   have:(if b > a then b else a)=max a b:=by rw [Int.max_def]; split <;> split <;> omega
   rw [this]; exact .int _ _ _
  ·cases h
 ·cases h
theorem AI8 {P:Program} {g:Gh} {w:World} (x y z:AV) (cx cy:Value) (h:ADP x y=some z) (hx:Rep g x cx) (hy:Rep g y cy) : ∃ cz,(Builtin.min2 cx cy).run P w = .ok cz w∧Rep g z cz:=by
 unfold ADP at h
 split at h
 ·split at h
  ·cases h
   rw [hx.int_inv,hy.int_inv]
   refine ⟨_,rfl,?_⟩
   rename_i k a k' b _
   have:(if b < a then b else a)=min a b:=by rw [Int.min_def]; split <;> split <;> omega
   rw [this]; exact .int _ _ _
  ·cases h
 ·cases h

/- ranging over a string -/
def XY (h:List ABlk) (it:AV) (isString:Bool):Option (AV × List ABlk) :=
 match it,isString with
 | .ptr b 0 0,true=>match h[b]? with
   | some (.iter s pos)=>if pos < s.size then some (.tup [.bool true,.int .i64 pos,.int .i32 (Utf8.decode s pos).1],h.set b (.iter s (pos+(Utf8.decode s pos).2))) else some (.tup [.bool false],h)
   | _=>none
 | _,_=>none
theorem AI5 {E:Env} {g:Gh} {h h':List ABlk} {w:World} {ty:TypeId} {it r:AV} {ci:Value} {b:Bool} (S:SimH E g h w) (ha:XY h it b=some (r,h')) (hr:Rep g it ci) :
  ∃ c w' g',(Instr.next ci b ty).run E.P w = .ok c w'∧Rep g' r c∧g.le g'∧SimH E g' h' w':=by
 unfold XY at ha
 split at ha
 case h_2=>cases ha
 rename_i b
 split at ha
 case h_2=>cases ha
 rename_i s pos hb
 obtain ⟨l,hl,rfl⟩:=hr.ptr_inv
 obtain ⟨l',q1,q2,q3,q4,q5⟩:=S.iter b s pos hb
 rw [hl] at q1; cases q1
 rw [q2,q3]
 have hget:(getObj l.cb).run E.P w = .ok (.stringIter s pos) w:=by simp [getObj,Sem.run,q5]
 split at ha
 ·rename_i hpos
  cases ha
  have hset:(setObj l.cb (.stringIter s (pos+(Utf8.decode s pos).2))).run E.P w = .ok () { w with heap:=w.heap.setIfInBounds l.cb (.stringIter s (pos+(Utf8.decode s pos).2)) }:=by simp [setObj,Sem.run,q5]
  have hlt:l.cb < w.heap.size:=by
   rcases Nat.lt_or_ge l.cb w.heap.size with h | h
   ·exact h
   ·rw [Array.getElem?_eq_none h] at q5; cases q5
  refine ⟨.tuple #[.bool true,.int .i64 pos,.int .i32 (Utf8.decode s pos).1],{ w with heap:=w.heap.setIfInBounds l.cb (.stringIter s (pos+(Utf8.decode s pos).2)) },g,?_,.tup _ _ rfl ?_,Gh.le.refl g,?_⟩
  ·simp [Instr.next,hget,hpos,hset,goInt]
  ·intro i v cv h1 h2
   rcases i with _ | _ | _ | i <;> simp at h1 h2 <;> subst h1 h2
   ·exact .bool _ _
   ·exact .int _ _ _
   ·exact .int _ _ _
  ·have S1:=S.kill b
   have u:=N8 S hb (by simp) hl
   have S2:SimH E g (h.set b .dead) { w with heap:=w.heap.setIfInBounds l.cb (.stringIter s (pos+(Utf8.decode s pos).2)) }:=S1.world rfl rfl rfl fun k hk=>by
    refine Array.getElem?_setIfInBounds_ne fun he => ?_
    subst he
    rcases hk with ⟨o,ho⟩ | hk
    ·rw [q4] at ho; cases ho
    ·exact hk u
   have:=S2.revive_iter (s:=s) (pos:=pos+(Utf8.decode s pos).2) hl q2 q3 (by simp [hlt]) q4 u
   simpa using this
 ·rename_i hpos
  cases ha
  refine ⟨.tuple #[.bool false],w,g,?_,.tup _ _ rfl ?_,Gh.le.refl g,S⟩
  ·simp [Instr.next,hget,hpos]
  ·intro i v cv h1 h2
   rcases i with _ | i <;> simp at h1 h2
   subst h1 h2; exact .bool _ _
def XB (P:Program) (h:List ABlk) (t:TypeId) (x:AV):Option (AV × List ABlk) :=
 match x with
 | .str s=>match P.underlying t with
   | some .string=>some (.ptr h.length 0 0,h ++ [.iter s 0])
   | _=>none
 | _=>none
theorem AGD {E:Env} {g:Gh} {h h':List ABlk} {w:World} {t:TypeId} {x r:AV} {cx:Value} (S:SimH E g h w) (ha:XB E.P h t x=some (r,h')) (hr:Rep g x cx) :
  ∃ c w' g',(Instr.range t cx).run E.P w = .ok c w'∧Rep g' r c∧g.le g'∧SimH E g' h' w':=by
 unfold XB at ha
 split at ha
 case h_2=>cases ha
 rename_i s
 split at ha
 case h_2=>cases ha
 rename_i hu
 cases ha
 rw [hr.str_inv]
 have hG:Grew w (w.alloc (.stringIter s 0)) (.stringIter s 0):=⟨rfl,rfl,rfl,rfl⟩
 obtain ⟨S',h0⟩:=S.grew hG
 obtain ⟨u1,u2⟩:=S.unowned_new (Nat.le_refl _)
 refine ⟨.pointer (some ⟨w.heap.size,0,none⟩),_,_,?_,?_,Gh.adopt_le (S.fresh _ (Nat.le_refl _)),S'.adopt_iter h0 u2 u1⟩
 ·simp [Instr.range,CV hu]
 ·have:=Rep.ptr (g:=g.adopt h.length ⟨w.heap.size,0,0,0⟩) h.length 0 0 ⟨w.heap.size,0,0,0⟩ (by simp [Gh.adopt])
  simpa using this
end Go.Proofs.YtocilianjfhifaaGreatDoor.Sm
/- The abstract step of a statement, calls, regions whose order is drawn, code: what is to be shown of a piece of code, as a proposition on abstract states; and that it suffices; no condition. -/
namespace Go.Proofs.YtocilianjfhifaaGreatDoor.Sm
open Go

def ev (E:Env) (F:Nat→AV):Operand→AV
 | .tmp t=>F t
 | .const v=>TV v
 | .global g=>E.G g
 | .func f => .fn (.func f) [] []
theorem AEZ {E:Env} {n:Nat} {g:Gh} {F:Nat→AV} {h:List ABlk} {a:Act} {w:World} (s:Sim E n g F h a w) (x:Operand):Rep g (ev E F x) (a.eval x):=by
 cases x with
 | tmp t=>exact s.frame t
 | const v=>exact .fro (V3 g.M v)
 | global n=>exact .fro (s.simH.glob n)
 | func f=>exact .fro (.fn _ _ _ _ _ rfl rfl (by simp) (by simp))

def evp (ρ:Operand→AV):List (Nat × Operand)→List (Nat × AV)
 | [] => []
 | (i,x) :: r=>(i,ρ x) :: evp ρ r
theorem WS {g:Gh} {ρ:Operand→AV} {ρ':Operand→Value} (hr : ∀ x,Rep g (ρ x) (ρ' x)) : ∀ l:List (Nat × Operand),Parts g (evp ρ l) (l.map fun (i,x)=>(i,ρ' x))
 | [] => .nil
 | (_,x) :: r => .cons (hr x) (WS hr r)

def ofO (h:List ABlk):Option AV→Option (AV × List ABlk)
 | some v=>some (v,h)
 | none=>none
def ofS:Option (List ABlk)→Option (AV × List ABlk)
 | some h=>some (HV,h)
 | none=>none

def K6 (P:Program) (h:List ABlk) (t0 t1:TypeId) (s x:AV):Bool :=
 match P.underlying t0 with
 | some (.slice e)=>match szO P e with
   | some k=>match QC P h k t1 x,JL h s with
     | some ys,some xs=>(xs.2 ++ ys).all (·.all AV.frozen)
     | _,_=>false
   | none=>false
 | _=>false

def MU (P:Program) (own:Bool) (h:List ABlk) (b:Builtin) (ts:List TypeId) (xs:List AV):Option (AV × List ABlk) :=
 match b with
 | .len=>match ts,xs with
   | [t],[x]=>ofO h (JD P t x)
   | _,_=>none
 | .max=>match xs with
   | x :: r=>ofO h (RQ ADQ x r)
   | _=>none
 | .min=>match xs with
   | x :: r=>ofO h (RQ ADP x r)
   | _=>none
 | .append=>match ts,xs with
   | [t0,t1],[s,x]=>if own || K6 P h t0 t1 s x then F5 P own h t0 t1 s x else none
   | _,_=>none
 | .copy=>match ts,xs with
   | [t,_],[d,s]=>ADS P h t d s
   | _,_=>none
 | .clear=>match ts,xs with
   | [t],[d]=>AKC P h t d
   | _,_=>none
 | _=>none

def aop (P:Program) (own:Bool) (h:List ABlk) (ρ:Operand→AV) (o:Op):Option (AV × List ABlk) :=
 match o with
 | .move x=>some (ρ x,h)
 | .assign x=>some (ρ x,h)
 | .pick c a b=>match ρ c with
   | .bool true=>some (ρ a,h)
   | .bool false=>some (ρ b,h)
   | _=>none
 | .alloc e=>JN P h e
 | .box _ x=>OH h (ρ x)
 | .build t ps=>ofO h (JX P t (evp ρ ps.toList))
 | .buildSlice t n ps=>FC P own h t n (evp ρ ps.toList)
 | .load t a=>ofO h (D7 P h t (ρ a))
 | .store t a x=>ofS (FQ P h t (ρ a) (ρ x))
 | .nilCheck x=>match ρ x with
   | .ptr b i j=>some (.ptr b i j,h)
   | .fptr k xs i j=>some (.fptr k xs i j,h)
   | _=>none
 | .binOp op t x y _=>ofO h (KY P t op (ρ x) (ρ y))
 | .unOp op _ x=>ofO h (aUn op (ρ x))
 | .convert s d x=>ofO h (QT P s d (ρ x))
 | .makeFunc fn a c=>some (.fn fn (a.toList.map ρ) (c.toList.map ρ),h)
 | .makeSlice t l c=>IY P own h t (ρ l) (ρ c)
 | .slice t x lo hi mx=>ofO h (LM P h t (ρ x) (lo.map ρ) (hi.map ρ) (mx.map ρ))
 | .fieldAddr t x f=>ofO h (CY P t (ρ x) f)
 | .field t x f=>ofO h (AKB P t (ρ x) f)
 | .indexAddr t x i=>ofO h (FW P h t (ρ x) (ρ i))
 | .index t x i=>ofO h (NY P t (ρ x) (ρ i))
 | .range t x=>XB P h t (ρ x)
 | .next it s=>XY h (ρ it) s
 | .extract t i=>match ρ t with
   | .tup vs=>ofO h vs[i]?
   | _=>none
 | .call c=>match c.callee with
   | .builtin b=>MU P own h b c.argTypes.toList (c.args.toList.map ρ)
   | _=>none
 | _=>none

theorem H8 {h h':List ABlk} {x:Option AV} {v:AV} (e:ofO h x=some (v,h')):x=some v∧h'=h:=by
 cases x <;> simp [ofO] at e; exact ⟨by rw [e.1],e.2.symm⟩
theorem SC {h':List ABlk} {x:Option (List ABlk)} {v:AV} (e:ofS x=some (v,h')):x=some h'∧v=HV:=by
 cases x <;> simp [ofS] at e; exact ⟨by rw [e.2],e.1.symm⟩

theorem AI3 {g:Gh} {ρ:Operand→AV} {ρ':Operand→Value} (hr : ∀ x,Rep g (ρ x) (ρ' x)) (x:Option Operand):(x.map ρ=none∧x.map ρ'=none)∨∃ v cv,x.map ρ=some v∧x.map ρ'=some cv∧Rep g v cv:=by
 cases x with
 | none=>exact .inl ⟨rfl,rfl⟩
 | some x=>exact .inr ⟨_,_,rfl,rfl,hr x⟩

/-- what an operation that is no call of a function leaves -/
def Leaves (E:Env) (g:Gh) (w:World) (s:Sem Next) (v:AV) (h':List ABlk):Prop :=
 ∃ nx cv w' g',s.run E.P w = .ok nx w'∧(nx = .value cv∨(nx = .skip∧cv=undef))∧Rep g' v cv∧g.le g'∧SimH E g' h' w'

theorem Leaves.of_val {E:Env} {g:Gh} {h h':List ABlk} {w:World} {s:Sem Value} {v:AV} (S:SimH E g h w) (hh:h'=h) (hx : ∃ cv,s.run E.P w = .ok cv w∧Rep g v cv):Leaves E g w (do pure (.value (← s))) v h':=by
 obtain ⟨cv,h1,h2⟩:=hx
 subst hh
 exact ⟨.value cv,cv,w,g,by simp [h1],.inl rfl,h2,Gh.le.refl g,S⟩
theorem Leaves.of_step {E:Env} {g:Gh} {h':List ABlk} {w:World} {s:Sem Value} {v:AV} (hx : ∃ c w' g',s.run E.P w = .ok c w'∧Rep g' v c∧g.le g'∧SimH E g' h' w'):Leaves E g w (do pure (.value (← s))) v h':=by
 obtain ⟨cv,w',g',h1,h2,h3,h4⟩:=hx
 exact ⟨.value cv,cv,w',g',by simp [h1],.inl rfl,h2,h3,h4⟩

theorem AK2 {α β:Type} {c:Array α} {f:α→β} {x:β} (h:c.toList.map f = [x]) : ∃ o,c = #[o]∧f o=x:=by
 obtain ⟨l⟩:=c
 cases l with
 | nil=>simp at h
 | cons a l=>cases l with
   | nil=>simp at h; exact ⟨a,rfl,h⟩
   | cons=>simp at h
theorem AKO {α β:Type} {c:Array α} {f:α→β} {x y:β} (h:c.toList.map f = [x,y]) : ∃ o p,c = #[o,p]∧f o=x∧f p=y:=by
 obtain ⟨l⟩:=c
 cases l with
 | nil=>simp at h
 | cons a l=>cases l with
   | nil=>simp at h
   | cons b l=>cases l with
     | nil=>simp at h; exact ⟨a,b,rfl,h.1,h.2⟩
     | cons=>simp at h
theorem PU {α:Type} {c:Array α} {l:List α} (h:c.toList=l):c=l.toArray:=by rw [← h]

theorem AF7 {E:Env} {ρ':Operand→Value} {b:Builtin} {args:Array Operand} {ats:Array TypeId} {ty:TypeId} {w:World} :
  ∃ cs,(do let d ← resolve ρ' { callee := .builtin b,args,argTypes:=ats } ty; invoke d.target d.args:Sem Next).run E.P w=(builtin b ats ty cs (args.map ρ')).run E.P w :=
 ⟨_,by simp only [resolve,invoke,Sem.run_bind,Sem.run_pure,Result.andThen_ok]; rfl⟩
theorem ALF (f:Operand→Value) (o:Operand):Array.map f #[o] = #[f o]:=by simp
theorem ALE (f:Operand→Value) (o p:Operand):Array.map f #[o,p] = #[f o,f p]:=by simp

theorem AFW {P:Program} {h:List ABlk} {k k':Nat} {t:TypeId} {x:AV} {ys ys':List (List AV)} (h1:QC P h k t x=some ys) (h2:QC P h k' t x=some ys'):ys=ys':=by
 unfold QC at h1 h2
 cases hu:P.underlying t with
 | none=>simp [hu] at h1
 | some d =>
   cases d <;> simp only [hu] at h1 h2 <;> first | (cases h1; done) | skip
   ·cases x <;> simp only at h1 h2 <;> first | (cases h1; done) | skip
    split at h1
    ·split at h2
     ·rw [h1] at h2; exact Option.some.inj h2
     ·cases h2
    ·cases h1
   ·cases hc:JL h x with
    | none=>simp [hc] at h1
    | some q =>
      simp only [hc] at h1 h2
      split at h1
      ·split at h2
       ·rw [h1] at h2; exact Option.some.inj h2
       ·cases h2
      ·cases h1

theorem AB7 {E:Env} {g:Gh} {h h':List ABlk} {w:World} {own:Bool} {b:Builtin} {args:Array Operand} {ats:Array TypeId} {ty:TypeId} {ρ:Operand→AV} {ρ':Operand→Value} {v:AV} {cs:Array Bool} (S:SimH E g h w) (hr : ∀ x,Rep g (ρ x) (ρ' x))
  (ha:MU E.P own h b ats.toList (args.toList.map ρ)=some (v,h')):Leaves E g w (builtin b ats ty cs (args.map ρ')) v h':=by
 unfold MU at ha
 split at ha
 ·split at ha
  ·rename_i t x hts hxs
   obtain ⟨o,rfl,rfl⟩:=AK2 hxs
   obtain ⟨h1,h2⟩:=H8 ha
   rw [PU hts,ALF]
   exact Leaves.of_val S h2 (AM7 h1 (hr o))
  ·cases ha
 ·split at ha
  ·rename_i x r hxs
   obtain ⟨h1,h2⟩:=H8 ha
   obtain ⟨l⟩:=args
   cases l with
   | nil=>simp at hxs
   | cons o l =>
     simp at hxs
     obtain ⟨rfl,rfl⟩:=hxs
     refine Leaves.of_val S h2 ?_
     have:=UX (P:=E.P) (g:=g) (w:=w) AJA (l.map ρ) (l.map ρ') (ρ o) v (ρ' o) h1 (hr o) (by simp) (fun i y cy a b=>by
      simp at a b
      obtain ⟨z,a1,rfl⟩:=a
      obtain ⟨z',b1,rfl⟩:=b
      rw [a1] at b1; cases b1; exact hr z)
     simpa [Builtin.max_] using this
  ·cases ha
 ·split at ha
  ·rename_i x r hxs
   obtain ⟨h1,h2⟩:=H8 ha
   obtain ⟨l⟩:=args
   cases l with
   | nil=>simp at hxs
   | cons o l =>
     simp at hxs
     obtain ⟨rfl,rfl⟩:=hxs
     refine Leaves.of_val S h2 ?_
     have:=UX (P:=E.P) (g:=g) (w:=w) AI8 (l.map ρ) (l.map ρ') (ρ o) v (ρ' o) h1 (hr o) (by simp) (fun i y cy a b=>by
      simp at a b
      obtain ⟨z,a1,rfl⟩:=a
      obtain ⟨z',b1,rfl⟩:=b
      rw [a1] at b1; cases b1; exact hr z)
     simpa [Builtin.min_] using this
  ·cases ha
 ·split at ha
  ·rename_i t0 t1 s x hts hxs
   obtain ⟨o,p,rfl,rfl,rfl⟩:=AKO hxs
   rw [PU hts,ALE]
   split at ha
   case isFalse=>cases ha
   rename_i hfz
   refine Leaves.of_step (AE7 S ha (hr o) (hr p) ?_)
   intro ho k ys xs h1 h2
   subst ho
   simp only [Bool.false_or,K6] at hfz
   unfold F5 at ha
   split at ha
   case h_2=>cases ha
   rename_i e hu
   split at ha
   case h_2=>cases ha
   rename_i k' hk'
   split at ha
   case h_2=>cases ha
   rename_i ys' hys'
   simp only [hu,hk',hys',h2,List.all_eq_true] at hfz
   have hyy:ys=ys':=by
    exact AFW h1 hys'
   subst hyy
   exact hfz
  ·cases ha
 ·split at ha
  ·rename_i t t1 d s hts hxs
   obtain ⟨o,p,rfl,rfl,rfl⟩:=AKO hxs
   rw [PU hts,ALE]
   exact Leaves.of_step (AJX S ha (hr o) (hr p))
  ·cases ha
 ·split at ha
  ·rename_i t d hts hxs
   obtain ⟨o,rfl,rfl⟩:=AK2 hxs
   rw [PU hts,ALF]
   exact Leaves.of_step (AHU S ha (hr o))
  ·cases ha
 ·cases ha

set_option maxHeartbeats 1000000 in
theorem AN9 {E:Env} {g:Gh} {h h':List ABlk} {w:World} {own:Bool} {o:Oper} {ρ:Operand→AV} {ρ':Operand→Value} {v:AV} (S:SimH E g h w) (hr : ∀ x,Rep g (ρ x) (ρ' x)) (ha:aop E.P own h ρ o.op=some (v,h')) :
  Leaves E g w (execOp ρ' o) v h':=by
 obtain ⟨dst,op,ty,pos,after,guard⟩:=o
 simp only at ha
 unfold aop at ha
 split at ha
 ·cases ha; exact ⟨_,_,w,g,rfl,.inl rfl,hr _,Gh.le.refl g,S⟩
 ·cases ha; exact ⟨_,_,w,g,rfl,.inl rfl,hr _,Gh.le.refl g,S⟩
 ·rename_i c a b
  have hc:=hr c
  split at ha
  ·rename_i hb; cases ha; rw [hb] at hc
   exact ⟨.value (ρ' a),ρ' a,w,g,by simp [execOp,hc.bool_inv,asBool],.inl rfl,hr _,Gh.le.refl g,S⟩
  ·rename_i hb; cases ha; rw [hb] at hc
   exact ⟨.value (ρ' b),ρ' b,w,g,by simp [execOp,hc.bool_inv,asBool],.inl rfl,hr _,Gh.le.refl g,S⟩
  ·cases ha
 ·exact Leaves.of_step (AH9 S ha)
 ·exact Leaves.of_step (AN2 S ha (hr _))
 ·obtain ⟨h1,h2⟩:=H8 ha
  exact Leaves.of_val S h2 (AH2 h1 (by rw [Array.toList_map]; exact WS hr _))
 ·exact Leaves.of_step (WX S ha (by rw [Array.toList_map]; exact WS hr _))
 ·obtain ⟨h1,h2⟩:=H8 ha
  exact Leaves.of_val S h2 (Z0 S h1 (hr _))
 ·obtain ⟨h1,rfl⟩:=SC ha
  obtain ⟨w',h2,h3⟩:=AFV S h1 (hr _) (hr _)
  exact ⟨.skip,undef,w',g,by simp [execOp,h2],.inr ⟨rfl,rfl⟩,Rep.undef g,Gh.le.refl g,h3⟩
 ·rename_i x
  have hx:=hr x
  split at ha
  ·rename_i hb; cases ha; rw [hb] at hx
   obtain ⟨l,hl,e⟩:=hx.ptr_inv
   exact ⟨.value (ρ' x),ρ' x,w,g,by simp [execOp,e],.inl rfl,hx,Gh.le.refl g,S⟩
  ·rename_i hb; cases ha; rw [hb] at hx
   obtain ⟨cb,oo,e,_⟩:=AAM (n:=0) hx.fptr_inv
   exact ⟨.value (ρ' x),ρ' x,w,g,by simp [execOp,e],.inl rfl,hx,Gh.le.refl g,S⟩
  ·cases ha
 ·obtain ⟨h1,h2⟩:=H8 ha
  exact Leaves.of_val S h2 (AKD w _ _ h1 (hr _) (hr _))
 ·obtain ⟨h1,h2⟩:=H8 ha
  exact Leaves.of_val S h2 (AOQ h1 (hr _))
 ·obtain ⟨h1,h2⟩:=H8 ha
  exact Leaves.of_val S h2 (AJY S h1 (hr _))
 ·rename_i fn a c
  cases ha
  refine ⟨.value (.func fn (a.map ρ') (c.map ρ')),_,w,g,by simp [execOp,Instr.makeFunc],.inl rfl,.fn _ _ _ _ _ (by simp) (by simp) ?_ ?_,Gh.le.refl g,S⟩
  ·intro i v cv h1 h2
   simp at h1 h2
   obtain ⟨z,a1,rfl⟩:=h1
   obtain ⟨z',b1,rfl⟩:=h2
   rw [a1] at b1; cases b1; exact hr z
  ·intro i v cv h1 h2
   simp at h1 h2
   obtain ⟨z,a1,rfl⟩:=h1
   obtain ⟨z',b1,rfl⟩:=h2
   rw [a1] at b1; cases b1; exact hr z
 ·exact Leaves.of_step (X5 S ha (hr _) (hr _))
 ·obtain ⟨h1,h2⟩:=H8 ha
  exact Leaves.of_val S h2 (AFY S h1 (hr _) (AI3 hr _) (AI3 hr _) (AI3 hr _))
 ·obtain ⟨h1,h2⟩:=H8 ha
  exact Leaves.of_val S h2 (X8 h1 (hr _))
 ·obtain ⟨h1,h2⟩:=H8 ha
  exact Leaves.of_val S h2 (AHB h1 (hr _))
 ·obtain ⟨h1,h2⟩:=H8 ha
  exact Leaves.of_val S h2 (X7 S h1 (hr _) (hr _))
 ·obtain ⟨h1,h2⟩:=H8 ha
  exact Leaves.of_val S h2 (AGS h1 (hr _) (hr _))
 ·exact Leaves.of_step (AGD S ha (hr _))
 ·exact Leaves.of_step (AI5 S ha (hr _))
 ·rename_i t i
  have ht:=hr t
  split at ha
  ·rename_i vs hb
   rw [hb] at ht
   obtain ⟨h1,h2⟩:=H8 ha
   obtain ⟨us,e,k1,k2⟩:=ht.tup_inv
   have hlt:=CE h1
   have hu:us[i]? = some (us[i]'(by omega)):=by simp [k1,hlt]
   refine Leaves.of_val S h2 ⟨_,?_,k2 i v _ h1 hu⟩
   rw [e]; simp [Instr.extract,hu]
  ·cases ha
 ·rename_i c
  split at ha
  ·rename_i b hb
   obtain ⟨callee,args,ats⟩:=c
   simp only at hb ha
   subst hb
   obtain ⟨cs,hcs⟩:=AF7 (E:=E) (ρ':=ρ') (b:=b) (args:=args) (ats:=ats) (ty:=ty) (w:=w)
   obtain ⟨nx,cv,w',g',k1,k2⟩:=AB7 (ty:=ty) (cs:=cs) S hr ha
   exact ⟨nx,cv,w',g',hcs.trans k1,k2⟩
  ·cases ha
 ·cases ha
end Go.Proofs.YtocilianjfhifaaGreatDoor.Sm
/- Calls, lists of operations, code: the proposition to be shown of a piece of code on abstract states, and that it suffices; no condition. -/
namespace Go.Proofs.YtocilianjfhifaaGreatDoor.Sm
open Go

abbrev Fr:=Nat→AV
abbrev Hp:=List ABlk

def XE (P:Program) (f:FuncId):Prop := ∃ fn,P.funcs[f]? = some fn∧fn.body.isSome=true∧(fn.name == "runtime.NumGoroutine")=false

def RepL (g:Gh) (args:List AV) (cargs:Array Value):Prop:=cargs.size=args.length∧∀ (i:Nat) (v:AV) (cv:Value),args[i]? = some v→cargs[i]? = some cv→Rep g v cv

/-- the contract of a function: called so in an abstract state it returns so -/
def ACalls (E:Env) (f:FuncId) (args:List AV) (h:Hp) (R:AV→Hp→Prop):Prop :=
 XE E.P f∧∀ (g:Gh) (w:World) (cargs:Array Value),SimH E g h w→RepL g args cargs →
  Calls E.P f cargs w fun e w' => ∃ v cv g' h',e = .returned cv∧R v h'∧g.le g'∧SimH E g' h' w'∧Rep g' v cv
theorem ACalls.mono {E:Env} {f:FuncId} {args:List AV} {h:Hp} {R R':AV→Hp→Prop} (hc:ACalls E f args h R) (hr : ∀ v h',R v h'→R' v h'):ACalls E f args h R' :=
 ⟨hc.1,fun g w cargs S ha=>(hc.2 g w cargs S ha).mono fun _ _ ⟨v,cv,g',h',e,r,q⟩=>⟨v,cv,g',h',e,hr _ _ r,q⟩⟩
/-- a pure call: one value, and the call's caller sees no change -/
def PCall (E:Env) (f:FuncId) (args:List AV) (h:Hp) (r:AV):Prop:=ACalls E f args h fun v h'=>v=r∧h'=h
theorem PCall.use {E:Env} {f:FuncId} {args:List AV} {h:Hp} {r:AV} {K:AV→Hp→Prop} (hc:PCall E f args h r) (hk:K r h):ACalls E f args h K :=
 ACalls.mono hc fun _ _ ⟨e1,e2⟩=>by rw [e1,e2]; exact hk

def MZ (E:Env) (own:Bool) (op:Op) (F:Fr) (h:Hp) (K:AV→Hp→Prop):Prop :=
 match op with
 | .call { callee := .value f,args:=as,.. }=>match ev E F f with
   | .fn (.func fid) first caps=>ACalls E fid (first ++ (as.toList.map (ev E F) ++ caps)) h K
   | _=>False
 | op=>match aop E.P own h (ev E F) op with
   | some (v,h')=>K v h'
   | none=>False

theorem AO5 {P:Program} {f:FuncId} {args:Array Value} {w:World} (h:XE P f):(callFunc f args).run P w = .ok (.enter f args) w:=by
 obtain ⟨fn,h1,h2,h3⟩:=h
 have h4 : ¬ (fn.body=none):=by intro h; rw [h] at h2; cases h2
 have h5 : ¬ (fn.name = "runtime.NumGoroutine"):=by simpa using h3
 simp [callFunc,h1,h4,h5]

theorem ASV {E:Env} {n:Nat} {g:Gh} {F:Fr} {h:Hp} {a:Act} {w:World} (s:Sim E n g F h a w) (l:List Operand) (i:Nat) (v:AV) (cv:Value) (h1:(l.map (ev E F))[i]? = some v) (h2:(l.map a.eval)[i]? = some cv):Rep g v cv:=by
 simp at h1 h2
 obtain ⟨z,a1,rfl⟩:=h1
 obtain ⟨z',b1,rfl⟩:=h2
 rw [a1] at b1; cases b1; exact AEZ s z

theorem XM {g:Gh} {xs ys:List AV} {as bs:Array Value} (h1:RepL g xs as) (h2:RepL g ys bs):RepL g (xs ++ ys) (as ++ bs):=by
 refine ⟨by simp [h1.1,h2.1],fun i v cv p q => ?_⟩
 rw [List.getElem?_append] at p
 rw [Array.getElem?_append] at q
 rw [h1.1] at q
 split at p
 ·rename_i hi; rw [if_pos hi] at q; exact h1.2 i v cv p q
 ·rename_i hi; rw [if_neg hi] at q; exact h2.2 _ v cv p q

theorem AAT {E:Env} {n:Nat} {own:Bool} {o:Oper} {F:Fr} {h:Hp} {K:AV→Hp→Prop} {g:Gh} {a:Act} {w:World} {next:Act→World→Prop} {Q:Exit→Act→World→Prop}
  (hx:MZ E own o.op F h K) (s:Sim E n g F h a w) (hn : ∀ v h',K v h'→∀ g' w' cv,g.le g'→SimH E g' h' w'→Rep g' v cv→next (a.put o.dst cv) w'):o.wp E.P a w next Q:=by
 have plain : ∀ v h',aop E.P own h (ev E F) o.op=some (v,h')→K v h'→o.wp E.P a w next Q:=by
  intro v h' ha hk
  obtain ⟨nx,cv,w',g',h1,h2,h3,h4,h5⟩:=AN9 (o:=o) s.simH (fun x=>AEZ s x) ha
  unfold Oper.wp
  rw [h1]
  rcases h2 with rfl | ⟨rfl,rfl⟩
  ·exact hn v h' hk g' w' cv h4 h5 h3
  ·exact hn v h' hk g' w' _ h4 h5 h3
 unfold MZ at hx
 split at hx
 ·rename_i f as ats hop
  split at hx
  ·rename_i fid first caps hf
   obtain ⟨hok,hc⟩:=hx
   have hfr:=AEZ s f
   rw [hf] at hfr
   obtain ⟨first',caps',hfe,k1,k2,k3,k4⟩:=hfr.fn_inv
   have hL:RepL g (first ++ (as.toList.map (ev E F) ++ caps)) (first' ++ (as.map a.eval ++ caps')) :=
    XM ⟨k1,k3⟩ (XM ⟨by simp,fun i v cv p q=>ASV s as.toList i v cv p (by simpa using q)⟩ ⟨k2,k4⟩)
   have hrun:(execOp a.eval o).run E.P w = .ok (.enter fid (first' ++ (as.map a.eval ++ caps'))) w:=by
    unfold execOp
    rw [hop]
    simp only [resolve,hfe,Deferred.ofValue,Sem.run_bind,Sem.run_pure,Result.andThen_ok,invoke]
    rw [AO5 hok,Array.append_assoc]
   unfold Oper.wp
   rw [hrun]
   refine (hc g w _ s.simH hL).mono fun e w' ⟨v,cv,g',h',e1,r,q1,q2,q3⟩ => ?_
   subst e1
   exact hn v h' r g' w' cv q1 q2 q3
  ·exact hx.elim
 ·split at hx
  ·rename_i v h' ha
   exact plain v h' ha hx
  ·exact hx.elim

/- guards -/
def ABX:List (Option Tmp)→Nat→Option Tmp
 | [],_=>none
 | d :: _,0=>d
 | _ :: r,j+1=>ABX r j
theorem AEI : ∀ (l:List Oper) (j:Nat),ABX (l.map (·.dst)) j=(l[j]?).bind (·.dst)
 | [],j=>by simp [ABX]
 | o :: l,0=>by simp [ABX]
 | o :: l,j+1=>by simp [ABX,AEI l j]
def MK (ds:List (Option Tmp)) (F:Fr) (gd:Option (Nat × Bool)):Option Bool :=
 match gd with
 | none=>some true
 | some (j,want)=>match ABX ds j with
   | none=>some false
   | some d=>match F d with
     | .bool b=>some (b == want)
     | .tup []=>some false
     | _=>none

theorem UK {E:Env} {n:Nat} {g:Gh} {F:Fr} {h:Hp} {a:Act} {w:World} {ops:Array Oper} {o:Oper} {c:Bool} (s:Sim E n g F h a w) (hw:MK (ops.toList.map (·.dst)) F o.guard=some c) :
  Region.wanted o (yielded ops a.tmps)=c:=by
 unfold MK at hw
 unfold Region.wanted
 split at hw
 ·rename_i hg; rw [hg]; cases hw; rfl
 ·rename_i j want hg
  rw [hg]
  simp only
  rw [AEI] at hw
  have hops:(ops.toList[j]?).bind (·.dst)=(ops[j]?).bind (·.dst):=by simp
  rw [hops] at hw
  split at hw
  ·rename_i hd
   cases hw
   simp [yielded,hd]
  ·rename_i d hd
   have hf:=s.frame d
   split at hw
   ·rename_i b hb
    cases hw
    rw [hb] at hf
    have he:=hf.bool_inv
    have hlt:d < a.tmps.size:=by
     rcases Nat.lt_or_ge d a.tmps.size with h | h
     ·exact h
     ·simp [h,undef] at he
    have:a.tmps[d]? = some (.bool b):=by
     simp [hlt] at he ⊢; exact he
    simp [yielded,hd,this]
   ·rename_i hb
    cases hw
    rw [hb] at hf
    obtain ⟨vs,he,hs,_⟩:=hf.tup_inv
    have hvs:vs = #[]:=by simpa using hs
    subst hvs
    have:yielded ops a.tmps j=none:=by
     unfold yielded
     rw [hd]
     simp only [Option.bind_some]
     rcases Nat.lt_or_ge d a.tmps.size with h | h
     ·simp [h] at he ⊢; rw [he]
     ·simp [h]
    rw [this]; rfl
   ·cases hw

/- a slice of the call's own in a slot is frozen: nobody will write to it any more -/
def LG (xs:List (List AV)):Bool:=xs.all (·.all AV.frozen)
def NG (s:Fr × Hp) (i:Nat):Fr × Hp :=
 match s.1 i with
 | .own b off len=>match s.2[b]? with
   | some (.live k xs)=>if off+len≤xs.length∧LG ((xs.drop off).take len)=true then (upd s.1 i (.sl .any k ((xs.drop off).take len)),s.2.set b .dead) else s
   | _=>s
 | _=>s

theorem AI2 {E:Env} {g:Gh} {h:Hp} {w:World} {b off len k:Nat} {xs:List (List AV)} {cv:Value} {M':Nat→Option Obj} {l:Loc} {c:Array Value} {e:TypeId} (S:SimH E g h w) (hb:h[b]? = some (.live k xs)) (hl:g.μ b=some l)
  (hw:w.heap[l.cb]? = some (.cells c e (0,0))) (hM:M' l.cb=some (.cells c e (0,0))) (hle:off+len≤xs.length) (hr:Rep g (.own b off len) cv) {φ:AV→AV}
  (hφ : ∀ row∈(xs.drop off).take len,∀ v∈row,(φ v).leaf=true∧∀ cv,Rep g v cv→RepF M' (φ v) cv):RepF M' (.sl .any k (((xs.drop off).take len).map (·.map φ))) cv:=by
 have hlen:((xs.drop off).take len).length=len:=by simp; omega
 have sub : ∀ (i:Nat) (row:List AV),((xs.drop off).take len)[i]? = some row→xs[off+i]? = some row:=by
  intro i row hi
  have hlt:=CE hi
  rw [List.getElem?_take,if_pos (by omega),List.getElem?_drop] at hi
  exact hi
 generalize (xs.drop off).take len=ys at hlen sub hφ ⊢
 have hrows : ∀ (i:Nat) (row:List AV),(ys.map (·.map φ))[i]? = some row→∃ row',ys[i]? = some row'∧row=row'.map φ:=by
  intro i row hi
  rw [List.getElem?_map] at hi
  cases hy:ys[i]? with
  | none=>rw [hy] at hi; cases hi
  | some r=>rw [hy] at hi; cases hi; exact ⟨r,rfl,rfl⟩
 have hcells : ∀ (j:Nat) (row':List AV) (v:AV),(row'.map φ)[j]? = some v→∃ u,row'[j]? = some u∧v=φ u:=by
  intro j row' v hv
  rw [List.getElem?_map] at hv
  cases hy:row'[j]? with
  | none=>rw [hy] at hv; cases hv
  | some r=>rw [hy] at hv; cases hv; exact ⟨r,rfl,rfl⟩
 have hlen2:(ys.map (·.map φ)).length=len:=by rw [List.length_map]; exact hlen
 by_cases h0:len=0
 ·subst h0
  have:ys = []:=List.eq_nil_of_length_eq_zero hlen
  subst this
  rcases hr.own_inv with ⟨l,cap,_,_,_,rfl⟩ | ⟨_,q,rfl⟩
  ·exact .empty .any k _ cap (by simp) (by simp)
  ·exact .empty .any k _ 0 (by simp) (by simp)
 rcases hr.own_inv with ⟨l',cap,q1,q2,q3,rfl⟩ | ⟨hz,_⟩
 case inr=>exact absurd hz h0
 obtain ⟨l2,c',e',p1,p2,p3,p4,p5,p6,p7,p8⟩:=S.live b k xs hb
 rw [hl] at q1 p1; cases q1; cases p1
 rw [hw] at p4; cases p4
 subst p2
 have:=RepF.sl (M:=M') .any l.k (ys.map (·.map φ)) l.cb (l.co+off * l.k) c e (0,0) cap (fun i j=>(c[l.co+(off+i) * l.k+j]?).getD Go.undef)
  (by intro hx; rw [hx] at hlen2; exact h0 hlen2.symm) (by simp) hM
  (fun i row hi=>by
   obtain ⟨row',h1,rfl⟩:=hrows i row hi
   refine ⟨by rw [List.length_map]; exact (p7 _ _ (sub i row' h1)).1,fun j v hv => ?_⟩
   obtain ⟨u,hu,rfl⟩:=hcells j row' v hv
   exact (hφ row' (List.mem_of_getElem? h1) u (List.mem_of_getElem? hu)).1)
  (fun i j hi hj=>by
   rw [hlen2] at hi
   have h1:ys[i]? = some (ys[i]'(by omega)):=List.getElem?_eq_getElem _
   have h2:=sub i _ h1
   have hrl:=(p7 _ _ h2).1
   obtain ⟨cv,a,_⟩:=p8 _ j _ ((ys[i]'(by omega))[j]'(by omega)) h2 (List.getElem?_eq_getElem _)
   have e1:l.co+off * l.k+i * l.k+j=l.co+(off+i) * l.k+j:=by rw [Nat.add_mul]; omega
   rw [e1,a]; rfl)
  (fun i j row v hi hv=>by
   obtain ⟨row',h1,rfl⟩:=hrows i row hi
   obtain ⟨u,hu,rfl⟩:=hcells j row' v hv
   obtain ⟨cv,a,b⟩:=p8 _ j _ u (sub i row' h1) hu
   rw [a]
   exact (hφ row' (List.mem_of_getElem? h1) u (List.mem_of_getElem? hu)).2 cv b)
  (by rw [hlen2]; exact q2) (by simp)
 rw [hlen2] at this
 exact this

theorem ABY {E:Env} {n:Nat} {g:Gh} {F:Fr} {h:Hp} {a:Act} {w:World} (i:Nat) (s:Sim E n g F h a w) : ∃ g',g.le g'∧Sim E n g' (NG (F,h) i).1 (NG (F,h) i).2 a w:=by
 unfold NG
 simp only
 split
 case h_2=>exact ⟨g,Gh.le.refl g,s⟩
 rename_i b off len hF
 split
 case h_2=>exact ⟨g,Gh.le.refl g,s⟩
 rename_i k xs hb
 split
 case isFalse=>exact ⟨g,Gh.le.refl g,s⟩
 rename_i hc
 obtain ⟨hle,hfz⟩:=hc
 obtain ⟨l,c,e,p1,p2,p3,p4,p5,p6,p7,p8⟩:=s.simH.live b k xs hb
 have S1:=s.simH.kill b
 have u:=N8 s.simH hb (by simp) p1
 have S2:=S1.freeze p4 p3 u
 have hg:g.le (g.freeze l.cb (.cells c e (0,0))):=Gh.freeze_le p3
 refine ⟨_,hg,S2,s.defers,s.size,fun j => ?_⟩
 simp only [upd]
 split
 ·rename_i hj
  subst hj
  have hr:=s.frame j
  rw [hF] at hr
  have hM:(g.freeze l.cb (.cells c e (0,0))).M l.cb=some (.cells c e (0,0)):=by simp [Gh.freeze]
  simp only [LG,List.all_eq_true] at hfz
  have:=AI2 (φ:=id) s.simH hb p1 p4 hM hle hr (fun row hrow v hv=>by
   obtain ⟨i,hi,rfl⟩:=List.getElem_of_mem hrow
   obtain ⟨j',hj',rfl⟩:=List.getElem_of_mem hv
   refine ⟨?_,fun cv hcv=>(AV.frozen_rep (hfz _ hrow _ hv) hcv).mono hg.M⟩
   have:=hfz _ hrow _ hv
   revert this
   generalize (((xs.drop off).take len)[i])[j']=y
   intro this
   cases y <;> simp_all [AV.frozen,AV.leaf])
  have hid:((xs.drop off).take len).map (·.map id)=(xs.drop off).take len:=by
   have:(fun x:List AV=>x.map id)=id:=by funext x; simp
   rw [this,List.map_id]
  rw [hid] at this
  exact .fro this
 ·exact (s.frame j).mono hg

def KH (s:Fr × Hp):List Nat→Fr × Hp
 | []=>s
 | i :: r=>KH (NG s i) r
theorem SH {E:Env} {n:Nat} {a:Act} {w:World} : ∀ (l:List Nat) {g:Gh} {F:Fr} {h:Hp},Sim E n g F h a w→∃ g',g.le g'∧Sim E n g' (KH (F,h) l).1 (KH (F,h) l).2 a w
 | [],g,_,_,s=>⟨g,Gh.le.refl g,s⟩
 | i :: r,_,F,h,s=>by
   obtain ⟨g1,h1,s1⟩:=ABY i s
   obtain ⟨g2,h2,s2⟩:=SH r s1
   exact ⟨g2,h1.trans h2,s2⟩

/-- what the prover says beside the code: at which operations a slice is the call's own against the rule (md), which slots are frozen ahead of which operation (fz) -/
structure Hint where
 md:Nat→Bool
 fz:Nat→List Nat
def Hint.none:Hint:=⟨fun _=>false,fun _ => []⟩

/-- is what this operation makes the call's own? append and make: yes, a composite: no; turned where the hint says so -/
def BA (op:Op) (b:Bool):Bool :=
 match op with
 | .buildSlice _ _ _=>b
 | _ => !b

/- a list of operations in the order of the text -/
def W (E:Env) (H:Hint) (ds:List (Option Tmp)):List Oper→Fr→Hp→(Fr→Hp→Prop)→Prop
 | [],F,h,K=>K F h
 | o :: r,F,h,K=>match MK ds F o.guard with
   | some c=>(c=true→MZ E (BA o.op (H.md (o.dst.getD 0))) o.op (KH (F,h) (H.fz (o.dst.getD 0))).1 (KH (F,h) (H.fz (o.dst.getD 0))).2 fun v h'=>W E H ds r (EM (KH (F,h) (H.fz (o.dst.getD 0))).1 o.dst v) h' K) ∧
     (c=false→W E H ds r (EM F o.dst HV) h K)
   | none=>False

theorem AFC {E:Env} {H:Hint} {n:Nat} {ops:Array Oper} {Q:Exit→Act→World→Prop} {K:Fr→Hp→Prop} {g0:Gh} : ∀ (l:List Oper) (F:Fr) (h:Hp) (g:Gh) (a:Act) (w:World),
  W E H (ops.toList.map (·.dst)) l F h K→Sim E n g F h a w→g0.le g→(∀ o∈l,∀ d,o.dst=some d→d < n) →
  (∀ F' h' g' a' w',K F' h'→g0.le g'→Sim E n g' F' h' a' w'→Q .normal a' w')→wpList E.P ops Q l a w
 | [],F,h,g,a,w,hW,s,hg,_,hk=>hk F h g a w hW hg s
 | o :: r,F,h,g,a,w,hW,s,hg,hd,hk=>by
   unfold W at hW
   split at hW
   ·rename_i c hc
    have hwant:=UK (o:=o) s hc
    unfold wpList
    rw [hwant]
    cases c with
    | true =>
      simp only [if_true]
      obtain ⟨g1,hg1,s1⟩:=SH (H.fz (o.dst.getD 0)) s
      refine .inl (AAT (hW.1 rfl) s1 fun v h' hv g' w' cv hle hH hr => ?_)
      exact AFC r _ _ _ _ _ hv (s1.put (hd o (by simp)) hle hH hr) (hg.trans (hg1.trans hle)) (fun o' ho'=>hd o' (by simp [ho'])) hk
    | false =>
      simp only [Bool.false_eq_true,if_false]
      exact AFC r _ _ _ _ _ (hW.2 rfl) (s.put (hd o (by simp)) (Gh.le.refl g) s.simH (Rep.undef g)) hg (fun o' ho'=>hd o' (by simp [ho'])) hk
   ·exact hW.elim
end Go.Proofs.YtocilianjfhifaaGreatDoor.Sm
