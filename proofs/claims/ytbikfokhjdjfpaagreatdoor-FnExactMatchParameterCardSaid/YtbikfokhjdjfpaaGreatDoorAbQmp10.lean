/- Merged texts (10 of 17) of the proof that ends in Mpy: Nd Nf Ne Ng L2kw. -/
import Derived.Test.YtbikfokhjdjfpaaGreatDoorAbQmp9
/- CutUnder (statement 30): both sides. -/
namespace Go.Ab.Vg
set_option linter.unusedSimpArgs false
set_option linter.unusedVariables false
theorem yL:∀ n:Fin 26,(fun i:Nat=>fB (97+(i:Int))=[UInt8.ofNat (97+i)]) n.val:=by
 simp only
 decide
theorem tE {l:Int} (h:0≤l∧l<26):qX l=[UInt8.ofNat (97+l.toNat)]:=by
 obtain⟨n,rfl⟩:∃ n:Nat,l=n:=⟨l.toNat,by omega⟩
 exact yL ⟨n,by omega⟩
theorem Cd {i j:Int} (h0:0≤i) (h:i<j) (hj:j<26):qX i<qX j:=by
 rw[tE ⟨h0,by omega⟩,tE ⟨by omega,hj⟩]
 refine List.cons_lt_cons_iff.2 (.inl ?_)
 rw[UInt8.lt_iff_toNat_lt,UInt8.toNat_ofNat',UInt8.toNat_ofNat']
 omega
theorem xp {b:Big} {kind kind':Int→Bool} {links links':Int→Int} {one:Bool} (hd:oX b) (hk:∀ k:Int,0≤k→k<b.nodes.length→kind k=kind' k) (hl:∀ k:Int,0≤k→k<b.nodes.length→kind' k=true→∀ l ∈ (at' b.nodes k).links,links l=links' l) :
  qk b kind links one=qk b kind' links' one:=by
 rw[qk,qk,p8 hk]
 refine List.map_congr_left fun k hm=>?_
 obtain⟨⟨h0,h1⟩,h2⟩:=(cx _).1 hm
 have hp:=hd.2 k h0 h1
 have hc:∀ n:Nat,n≤b.nodes.length→er kind n=er kind' n:=fun n hn=>by rw[er,er,p8 fun x hx hx'=>hk x hx (by omega)]
 rw[cp,cp]
 congr 1
 ·by_cases h3:0≤(at' b.nodes k).parent
  ·rw[hk _ h3 (by omega),hc _ (by omega)]
  ·rw[if_neg (show ¬ (0≤(at' b.nodes k).parent∧kind (at' b.nodes k).parent=true) from fun h=>h3 h.1),if_neg (show ¬ (0≤(at' b.nodes k).parent∧kind' (at' b.nodes k).parent=true) from fun h=>h3 h.1)]
 ·exact List.map_congr_left fun l hm=>hl k h0 h1 h2 l hm
def nQ (b:Big):Nat:=(b.edges+b.outer.length).toNat
theorem Bq {sig:Sig} {b:Big} (hV:bQ sig b):nQ b≤24∧((nQ b:Nat):Int)=b.edges+b.outer.length:=by
 have h1:=hV.edges
 have h2:=hV.outer
 rw[nQ]
 omega
theorem wk {l:List Str} (h:l.Pairwise (·<·)) {q:Nat} (hq:q<l.length):dQ l (at' l (q:Int))=q:=by
 refine nF hq (fun j hj=>?_) rfl
 rw[bY hq,bY (by omega)]
 exact zk (List.pairwise_iff_getElem.1 h j q (by omega) hq hj)
abbrev z0B:Big:=⟨0,[],[],0,[],[]⟩
end Go.Ab.Vg
/- bf (statement 37): both sides. -/
namespace Go.Ab.Vg
set_option linter.unusedSimpArgs false
set_option linter.unusedVariables false
abbrev nU (sig:Sig) (b:Big):Prop:=bZ sig b
abbrev iq (sig:Sig) (b:Big):Big × Bool:=lu sig b
def mY (sig:List Control) (b:Big) (Z:(Big × Bool)→Prop):Prop:=
 (bZ sig b)∧∀ r6:Bool,r6=fx sig b→((r6=true→Z (b,true))∧(r6=false→Z ((Big.mk 0 [] [] 0 [] []),false)))
theorem CX (sig:Sig) (b:Big) (h:nU sig b):mY sig b (fun y=>y=iq sig b):=by
 unfold mY
 simp only[forall_eq]
 refine⟨h,fun h1=>?_,fun h1=>?_⟩
 ·rw[iq,lu,if_pos h1]
 ·rw[iq,lu,if_neg (by rw[h1];simp)]
theorem Bh {l:List Int} {a:Int} {e:Nat} (he:e<l.length) (h:at' l (e:Int)=a):aW l a≤e:=by
 rw[bY he] at h
 have hm:a ∈ l:=h ▸ List.getElem_mem he
 rw[aW,if_pos hm]
 rcases Nat.lt_or_ge e (l.idxOf a) with h1 | h1
 ·have:=List.not_of_lt_findIdx (p:=(· == a)) (xs:=l) (i:=e) (by show e<l.idxOf a;exact h1)
  simp[h] at this
 ·omega
theorem zr {b:Big} {i:Int} (h:i ∈ b.sites):0<(dA b i).length∧at' (dA b i) 0=aW b.sites i:=by
 have hq:=dg b.sites i
 have hat:=mJ h
 have h0:=hq.2.2.2 h
 have hm:aW b.sites i ∈ dA b i:=(j0 _ _).2 ⟨h0,by omega,by simpa using hat⟩
 have hp:(dA b i).Pairwise (·<·):=by
  rw[dA,idxs,List.pairwise_map]
  refine List.Pairwise.imp (fun h=>?_) (List.pairwise_lt_range.sublist List.filter_sublist)
  omega
 have hmin:∀ e ∈ dA b i,aW b.sites i≤e:=fun e he=>by
  obtain⟨e0,e1,e2⟩:=(j0 _ _).1 he
  obtain⟨n,rfl⟩:∃ n:Nat,e=n:=⟨e.toNat,by omega⟩
  exact Bh (by omega) (by simpa using e2)
 match hL:dA b i,hm,hp,hmin with
 | x::L,hm,hp,hmin=>
  refine⟨by simp,?_⟩
  have h1:=hmin x (by simp)
  have h2:aW b.sites i=x:=by
   rcases List.mem_cons.1 hm with h3 | h3
   ·exact h3
   ·have:=(List.pairwise_cons.1 hp).1 _ h3
    omega
  rw[h2];rfl
theorem AG {p:Int→Bool} {n:Nat} {i:Int} (h:i ∈ bH p n):at' (bH p n) (er p i.toNat)=i:=by rw[← kn p h];exact mJ h
theorem EE {α:Type} (p:Int→Bool) (n:Nat) (f:Int→α) {i:Int} (h:i ∈ bH p n) (v:α):((bH p n).map f).set (er p i.toNat).toNat v=(bH p n).map fun k=>if k=i then v else f k:=by
 have hc:=qG p i.toNat
 have hil:=(dg (bH p n) i).2.1
 rw[kn p h] at hil
 have hat:=AG h
 obtain⟨c,hcc⟩:∃ c:Nat,er p i.toNat=c:=⟨(er p i.toNat).toNat,by omega⟩
 rw[hcc] at hat hil ⊢
 rw[bY (by omega)] at hat
 refine List.ext_getElem (by simp) fun j h1 h2=>?_
 simp only[List.getElem_set,List.getElem_map,Int.toNat_natCast]
 have hj:j<(bH p n).length:=by simpa using h2
 by_cases hjc:c=j
 ·subst hjc;rw[if_pos rfl,if_pos hat]
 ·rw[if_neg hjc,if_neg]
  intro he
  have hlt:=List.pairwise_iff_getElem.1 (D6 p n)
  rcases Nat.lt_or_ge c j with h3 | h3
  ·have:=hlt c j (by omega) hj h3;omega
  ·have:=hlt j c hj (by omega) (by omega);omega
abbrev dy (agent:Big) (m:Match):Int→Bool:=ll 3 agent m
def tJ (redex:Big) (m:Match) (p:Int):Int:=aW redex.sites (aW m.nodes p)
def fq (redex agent:Big) (m:Match) (k:Int):aj:=
 ⟨(at' agent.nodes k).control,if (at' agent.nodes k).parent ∈ m.nodes then -1 - tJ redex m (at' agent.nodes k).parent else er (dy agent m) (at' agent.nodes k).parent.toNat,(at' agent.nodes k).links.map fun l=>aW (aR agent m) l⟩
def il (redex agent:Big) (m:Match):Big:=⟨redex.sites.length,(bH (dy agent m) agent.nodes.length).map (fq redex agent m),[],0,dR redex.outer (aR agent m).length,[]⟩
theorem o4 {agent:Big} {m:Match} {k:Int}:dy agent m k=true↔cC agent m.nodes k=true∧k ∉ m.nodes:=by
 rw[show dy agent m k=(cC agent m.nodes k && !(k7 m.nodes k)) from by simp[dy,ll],Bool.and_eq_true,Bool.not_eq_true',mw]
theorem tO {sig:Sig} {agent:Big} (hV:bQ sig agent) {m:Match} {k:Int} (h0:0≤k) (h1:k<agent.nodes.length) (hk:dy agent m k=true):0≤(at' agent.nodes k).parent∧(at' agent.nodes k).parent<k∧((at' agent.nodes k).parent ∈ m.nodes∨dy agent m (at' agent.nodes k).parent=true):=by
 obtain⟨hu,hn⟩:=o4.1 hk
 have hp:=(hV.xf ⟨h0,h1⟩).2
 rw[pC hV.om.2 h0 h1 hn] at hu
 have h2:0≤(at' agent.nodes k).parent:=by
  rcases Int.lt_or_le (at' agent.nodes k).parent 0 with h3 | h3
  ·rw[og h3] at hu;cases hu
  ·exact h3
 refine⟨h2,hp,?_⟩
 by_cases hm:(at' agent.nodes k).parent ∈ m.nodes
 ·exact .inl hm
 ·exact .inr (o4.2 ⟨hu,hm⟩)
theorem Eu {redex agent:Big} {m:Match} (hM:pD redex agent m) {k:Int} (h0:0≤k) (h1:k<agent.nodes.length) (hn:k ∉ m.nodes) (hp:(at' agent.nodes k).parent ∈ m.nodes):aW m.nodes (at' agent.nodes k).parent ∈ redex.sites:=by
 have hi:=dg m.nodes (at' agent.nodes k).parent
 have hi0:=hi.2.2.2 hp
 obtain⟨i,hii⟩:∃ i:Nat,aW m.nodes (at' agent.nodes k).parent=i:=⟨(aW m.nodes (at' agent.nodes k).parent).toNat,by omega⟩
 have hat:=mJ hp
 rw[hii] at hat hi ⊢
 have hO:=(hM.2.2.1 i (by have:=hM.1.1;omega)).2.2
 rw[hat] at hO
 have hc:k ∈ gD agent (at' agent.nodes k).parent:=(j0 _ _).2 ⟨h0,h1,by simp⟩
 have hne:(dA redex (i:Int)).length ≠ 0:=fun h=>hn (hO h k hc)
 obtain⟨x,hx⟩:=List.exists_mem_of_length_pos (Nat.pos_of_ne_zero hne)
 obtain⟨x0,x1,x2⟩:=(j0 _ _).1 hx
 have:at' redex.sites x=(i:Int):=by simpa using x2
 rw[← this]
 exact at_mem ⟨x0,x1⟩
abbrev hZ (_:Int) (own:List Int) (redex:Big) (m:Match):Prop:=own.length≤1048576∧redex.sites.length≤1048576∧m.nodes.length≤1048576
abbrev lC (p:Int) (own:List Int) (redex:Big) (m:Match):Int:=if 0≤aW own p then aW own p else -1 - tJ redex m p
def oP (p:Int) (v_:List Int) (v_':Big) (v_'':Match) (Z:Int→Prop):Prop:=
 (eK v_ p)∧∀ r3:Int,r3=aW v_ p→∀ c4:Bool,c4=decide (0≤r3)→((c4=true→Z r3)∧(c4=false→(eK v_''.nodes p)∧∀ r7:Int,r7=aW v_''.nodes p→(eK v_'.sites r7)∧∀ r9:Int,r9=aW v_'.sites r7→(I64 ((-1) - r9))∧∀ v11:Int,v11=(-1) - r9→Z v11))
theorem EG (p:Int) (own:List Int) (redex:Big) (m:Match) (h:hZ p own redex m):oP p own redex m (fun y=>y=lC p own redex m):=by
 unfold oP
 obtain⟨h1,h2,h3⟩:=h
 simp only[forall_eq,decide_eq_true_eq,decide_eq_false_iff_not]
 have:=dg redex.sites (aW m.nodes p)
 refine⟨h1,fun h4=>by rw[lC,if_pos h4],fun h4=>⟨h3,h2,by simp only[I64];omega,by rw[lC,if_neg h4];rfl⟩⟩
abbrev ie (l:Int) (names:List Str) (passed:List Int):Prop:=passed.length≤1048576∧0≤aW passed l∧aW passed l<names.length
abbrev p9 (l:Int) (names:List Str) (passed:List Int):Str:=at' names (aW passed l)
def ow (l:Int) (v_:List Str) (v_':List Int) (Z:Str→Prop):Prop:=
 (eK v_' l)∧∀ r3:Int,r3=aW v_' l→(0≤r3∧r3<v_.length)∧∀ x5:Str,x5=at' v_ r3→Z x5
theorem EV (l:Int) (names:List Str) (passed:List Int) (h:ie l names passed):ow l names passed (fun y=>y=p9 l names passed):=by
 unfold ow
 simp only[forall_eq]
 exact⟨h.1,h.2,trivial⟩
theorem EH {i j:Nat} (h:i<j) (hj:j<26):ga i<ga j:=by
 have:=Cd (i:=(i:Int)) (j:=(j:Int)) (by omega) (by omega) (by omega)
 rw[ga,ga]
 exact List.cons_lt_cons_iff.2 (.inr ⟨rfl,this⟩)
theorem jX {outer:List Str} {n:Nat} (h:n+outer.length≤16):(dR outer n).Pairwise (·<·):=by
 rw[dR]
 refine List.Pairwise.sublist (List.take_sublist _ _) (List.Pairwise.sublist List.filter_sublist ?_)
 rw[List.pairwise_map]
 exact List.pairwise_lt_range.imp_of_mem fun {a b} _ hb h=>EH h (by have:=List.mem_range.1 hb;omega)
theorem jC {outer:List Str} {n:Nat} (h:n+outer.length≤16):(dR outer n).length=n:=by
 have:=pd outer (k:=n+outer.length) (by omega)
 rw[dR,List.length_take];omega
theorem nN {agent:Big} {m:Match} {k l:Int} (h0:0≤k) (h1:k<agent.nodes.length) (hk:dy agent m k=true) (hl:l ∈ (at' agent.nodes k).links):l ∈ aR agent m:=
 ((gV (eO agent m)).2 l).2 (kp.2 ⟨k,⟨h0,h1⟩,hk,hl⟩)
theorem BQ (agent:Big) (m:Match):bI agent m=bH (dy agent m) agent.nodes.length:=rfl
theorem D8 {sig:Sig} {redex agent:Big} (hV:bQ sig agent) {m:Match} (hs:(aR agent m).length+redex.outer.length≤16) :
  (bH (dy agent m) agent.nodes.length).map (fb agent [] (bo (dR redex.outer (aR agent m).length)) (fun z=>lC z (bH (dy agent m) agent.nodes.length) redex m) (fun z=>p9 z (dR redex.outer (aR agent m).length) (aR agent m)))=(bH (dy agent m) agent.nodes.length).map (fq redex agent m):=by
 rw[fp (jX hs)]
 refine List.map_congr_left fun k hk=>?_
 obtain⟨⟨h0,h1⟩,hu⟩:=(cx _).1 hk
 obtain⟨p0,p1,p2⟩:=tO hV h0 h1 hu
 rw[fb,fq]
 congr 1
 ·by_cases hm:(at' agent.nodes k).parent ∈ m.nodes
  ·have hno:(at' agent.nodes k).parent ∉ bH (dy agent m) agent.nodes.length:=fun h=>(o4.1 ((cx _).1 h).2).2 hm
   rw[lC,rX _ hno,if_neg (by omega),if_pos hm]
  ·have hy:(at' agent.nodes k).parent ∈ bH (dy agent m) agent.nodes.length:=(cx _).2 ⟨⟨p0,by omega⟩,p2.resolve_left hm⟩
   have:=qG (dy agent m) (at' agent.nodes k).parent.toNat
   rw[lC,kn _ hy,if_pos (by omega),if_neg hm]
 ·refine List.map_congr_left fun l hl=>?_
  have hm:=nN h0 h1 hu hl
  have hi:=dg (aR agent m) l
  have hi0:=hi.2.2.2 hm
  obtain⟨q,hq⟩:∃ q:Nat,aW (aR agent m) l=q:=⟨(aW (aR agent m) l).toNat,by omega⟩
  rw[show aW [] l = -1 from rfl,if_neg (by omega),p9,hq,wk (jX hs) (by rw[jC hs];omega)]
  simp
theorem Bs {k:Nat} (h:k<64):(ga k).length≤5:=by
 have:=po h
 show (122::fB (97+(k:Int))).length≤5
 rw[List.length_cons]
 omega
theorem uu {sig:Sig} {redex agent:Big} (hS:bZ sig agent) (hV:bQ sig agent) (hR:bQ sig redex) {m:Match}:bZ sig (il redex agent m):=by
 have hn:=mA (dy agent m) agent.nodes.length
 have h8:=hV.len
 have hp:=iC hV m
 have hsl:=hR.slen
 have nl:(dR redex.outer (aR agent m).length).length≤(aR agent m).length:=by rw[dR,List.length_take];omega
 refine⟨hS.sigLen,hS.sigNames,by simp[il];omega,by simp[il],by simp only[il];omega,by simp[il],fun s hs=>?_,by simp[il],fun x hx=>?_,fun x hx=>?_,by simp[il]⟩
 ·simp only[il,dR] at hs
  obtain⟨k,hk,rfl⟩:=List.mem_map.1 (List.mem_filter.1 (List.mem_of_mem_take hs)).1
  have h1:=List.mem_range.1 hk
  have h2:=hR.outer
  have h3:=Bs (k:=k) (by omega)
  omega
 ·obtain⟨k,hk,rfl⟩:=List.mem_map.1 hx
  have:=hV.jw ((cx _).1 hk).1
  simp[fq];omega
 ·obtain⟨k,hk,rfl⟩:=List.mem_map.1 hx
  have h1:=((cx _).1 hk).1
  have h2:=(hV.xf h1).2
  have h3:=qG (dy agent m) (at' agent.nodes k).parent.toNat
  have h4:=dg redex.sites (aW m.nodes (at' agent.nodes k).parent)
  simp only[fq,I64,tJ]
  split<;>omega
abbrev oe (sig:Sig) (redex agent:Big) (m:Match):Prop:=ec sig redex agent m∧(bE sig redex agent && ee redex agent m)=true
noncomputable def e9 (sig:Sig) (redex agent:Big) (m:Match):Big × Bool:=if (aR agent m).length+redex.outer.length≤16 then lu sig (il redex agent m) else (z0B,false)
def mW (sig:List Control) (redex:Big) (agent:Big) (m:Match) (Z:(Big × Bool)→Prop):Prop:=
 (dI redex agent m)∧∀ r8:(List Int) × (List Str) × Bool,r8=eg redex agent m→((r8.2.2=true→(eJ agent m)∧∀ r37:List Int,r37=bI agent m→(pK agent r37 [] r8.2.1 (fun z0=>lC z0 r37 redex m) (fun z0=>hZ z0 r37 redex m) (fun z0=>p9 z0 r8.2.1 r8.1) (fun z0=>ie z0 r8.2.1 r8.1))∧∀ r52:Big,r52=mg agent r37 [] r8.2.1 (fun z0=>lC z0 r37 redex m) (fun z0=>hZ z0 r37 redex m) (fun z0=>p9 z0 r8.2.1 r8.1) (fun z0=>ie z0 r8.2.1 r8.1)→∀ len81:Int,len81=(redex.sites.length:Int)→(nC sig (Big.mk len81 r52.nodes r52.sites r52.edges r52.outer r52.inner))∧∀ r89:Big × Bool,r89=iL sig (Big.mk len81 r52.nodes r52.sites r52.edges r52.outer r52.inner)→Z (r89.1,r89.2))∧(r8.2.2=false→Z ((Big.mk 0 [] [] 0 [] []),false)))
theorem CY (sig:Sig) (redex agent:Big) (m:Match) (h:oe sig redex agent m):mW sig redex agent m (fun y=>y=e9 sig redex agent m):=by
 unfold mW
 obtain⟨hS,hm⟩:=h
 have hp:=eD (Bool.and_eq_true _ _ ▸ hm).1
 have hV:=hp.a
 have h8:=hV.len
 have hn:=mA (dy agent m) agent.nodes.length
 have hpl:=iC hV m
 have hsl:=hp.r.slen
 simp only[forall_eq,eg,decide_eq_true_eq,decide_eq_false_iff_not,BQ]
 refine⟨nn hS hm,fun h1=>⟨⟨hV.om,hS.2.2.1⟩,?_,?_⟩,fun h1=>?_⟩
 ·have nl:=jC h1
  exact⟨by omega,by simp,by omega,fun k hk=>((cx _).1 hk).1,fun k _=>⟨by omega,by omega,hS.2.2.1⟩,fun k hk=>by have:=hV.jw ((cx _).1 hk).1;omega,fun k hk l hl _=>by
   have hm:=nN ((cx _).1 hk).1.1 ((cx _).1 hk).1.2 ((cx _).1 hk).2 hl
   have hi:=dg (aR agent m) l
   exact⟨by omega,hi.2.2.2 hm,by omega⟩⟩
 ·have e:∀ A:Big,A=mg agent (bH (dy agent m) agent.nodes.length) [] (dR redex.outer (aR agent m).length) (fun z0=>lC z0 (bH (dy agent m) agent.nodes.length) redex m) (fun z0=>hZ z0 (bH (dy agent m) agent.nodes.length) redex m) (fun z0=>p9 z0 (dR redex.outer (aR agent m).length) (aR agent m)) (fun z0=>ie z0 (dR redex.outer (aR agent m).length) (aR agent m)) →
    Big.mk (redex.sites.length:Int) A.nodes A.sites A.edges A.outer A.inner=il redex agent m:=by
   rintro _ rfl
   rw[il,← D8 hV h1,fp (jX h1)]
   show Big.mk _ _ _ _ (bo (dR redex.outer (aR agent m).length)) _=_
   rw[fp (jX h1)]
   simp only[mg,fp (jX h1)]
   rfl
  rw[e _ rfl]
  exact⟨uu hS.2.1 hV hp.r,by rw[e9,if_pos h1]⟩
 ·rw[e9,if_neg h1]
abbrev dw (sig:Sig) (redex agent:Big) (m:Match):Prop:=ec sig redex agent m
noncomputable def bf (sig:Sig) (redex agent:Big) (m:Match):Big × Bool:=if bE sig redex agent && ee redex agent m then e9 sig redex agent m else (z0B,false)
def dV (sig:List Control) (redex:Big) (agent:Big) (m:Match) (Z:(Big × Bool)→Prop):Prop:=
 (jA sig redex agent m)∧∀ r8:Bool,r8=ig sig redex agent m→((r8=true→(oe sig redex agent m)∧∀ r17:Big × Bool,r17=e9 sig redex agent m→Z (r17.1,r17.2))∧(r8=false→Z ((Big.mk 0 [] [] 0 [] []),false)))
theorem oB (sig:Sig) (redex agent:Big) (m:Match) (h:dw sig redex agent m):dV sig redex agent m (fun y=>y=bf sig redex agent m):=by
 unfold dV
 simp only[forall_eq]
 refine⟨h,fun h1=>⟨⟨h,h1⟩,?_⟩,fun h1=>?_⟩
 ·rw[bf,if_pos h1]
 ·rw[bf,if_neg (by rw[show (bE sig redex agent && ee redex agent m)=false from h1];simp)]
abbrev nE (redex:Big) (m:Match) (p:Int):Prop:=redex.sites.length≤1048576∧m.nodes.length≤1048576∧p ∈ m.nodes∧aW m.nodes p ∈ redex.sites
abbrev rD (redex:Big) (m:Match) (p:Int):Int:=tJ redex m p
def mG (redex:Big) (m:Match) (image:Int) (Z:Int→Prop):Prop:=
 aw (σ:=Int) (fun i7 K10=>∀ ot:Int,ot=(m.nodes.length:Int)→∀ c13:Bool,c13=decide (i7<ot)→((c13=true→(0≤i7∧i7<m.nodes.length)∧∀ x16:Int,x16=at' m.nodes i7→∀ c18:Bool,c18=decide (x16=image)→((c18=true→(du redex i7)∧∀ r21:List Int,r21=ju redex i7→((0:Int)≤0∧(0:Int)<r21.length)∧∀ x23:Int,x23=at' r21 0→Z x23)∧(c18=false→(I64 (i7+1))∧∀ v27:Int,v27=i7+1→K10 (v27))))∧(c13=false→Z 0))) (0)
theorem C4 (redex:Big) (m:Match) (p:Int) (h:nE redex m p):mG redex m p (fun y=>y=rD redex m p):=by
 unfold mG
 obtain⟨h1,h2,h3,h4⟩:=h
 have hi:=dg m.nodes p
 have hi0:=hi.2.2.2 h3
 have hat:=mJ h3
 refine aw.up1 m.nodes.length (fun k=>∀ j<k,at' m.nodes (j:Int) ≠ p) (by simp) ?_
 rintro k K hk hI IH
 simp only[forall_eq,decide_eq_true_eq,decide_eq_false_iff_not]
 refine⟨fun h5=>⟨⟨by omega,h5⟩,fun h6=>⟨h1,?_⟩,fun h6=>⟨by simp only[I64];omega,IH (by omega) fun j hj=>?_⟩⟩,fun h5=>?_⟩
 ·have e:aW m.nodes p=k:=nV (by omega) hI h6
  rw[e] at h4
  obtain⟨q1,q2⟩:=zr h4
  refine⟨⟨by omega,by simpa using q1⟩,?_⟩
  rw[rD,tJ,e,← q2]
 ·rcases Nat.lt_or_ge j k with h7 | h7
  ·exact hI j h7
  ·rw[show j=k by omega];exact h6
 ·exfalso
  obtain⟨q,hq⟩:∃ q:Nat,aW m.nodes p=q:=⟨(aW m.nodes p).toNat,by omega⟩
  rw[hq] at hat hi
  exact hI q (by omega) hat
structure nq (redex agent:Big) (m:Match) (passed:List Int) (names:List Str):Prop where
 a:∃ sig,bQ sig agent
 r:redex.sites.length≤1048576
 mp:pD redex agent m
 s:m.nodes.length≤1048576
 p:passed=aR agent m
 n:names.length≤1048576
def ky (redex agent:Big) (m:Match) (_:List Int) (names:List Str):Big:=⟨redex.sites.length,(bH (dy agent m) agent.nodes.length).map (fq redex agent m),[],0,names,[]⟩
theorem DV {agent:Big} {m:Match} {k:Int} (h0:0≤k) (h:k<agent.nodes.length):at' (bM agent m) k=dy agent m k:=by
 obtain⟨n,rfl⟩:∃ n:Nat,k=n:=⟨k.toNat,by omega⟩
 rw[bY (by simp;omega)]
 simp
theorem oz {sig:Sig} {agent:Big} (hV:bQ sig agent) {m:Match} {x:Int} (h:x ∈ aR agent m):0≤x∧x<agent.edges+agent.outer.length:=by
 obtain⟨y,hy,_,hl⟩:=kp.1 (((gV (eO agent m)).2 x).1 h)
 exact hV.ox hy x hl
def mO (redex:Big) (agent:Big) (m:Match) (passed:List Int) (names:List Str) (Z:Big→Prop):Prop:=
 (eG agent m)∧∀ r9:List Bool,r9=bM agent m→∀ dt:Int,dt=(agent.outer.length:Int)→(I64 (agent.edges+dt))∧∀ v13:Int,v13=agent.edges+dt→(0≤v13∧v13≤1073741824)∧∀ l16:List Int,l16=List.replicate v13.toNat default→aw (σ:=Int × (List Int)) (fun (i39,l40) K44=>∀ len45:Int,len45=(passed.length:Int)→∀ c47:Bool,c47=decide (i39<len45)→((c47=true→(0≤i39∧i39<passed.length)∧∀ x50:Int,x50=at' passed i39→(0≤x50∧x50<l40.length)∧∀ x57:Int,x57=at' l40 x50→∀ l60:List Int,l60=l40.set x50.toNat i39→(I64 (i39+1))∧∀ v67:Int,v67=i39+1→K44 (v67,l60))∧(c47=false→∀ len71:Int,len71=(redex.sites.length:Int)→(([]:List Str).length+names.length≤1073741824)∧∀ l75:List Str,l75=([]:List Str)++names→(nv agent r9 true l40 false)∧∀ r195:List aj,r195=sc agent r9 true l40 false→aw (σ:=Int × Int × (List aj)) (fun (atV218,i219,l220) K225=>∀ len226:Int,len226=(agent.nodes.length:Int)→∀ c228:Bool,c228=decide (i219<len226)→((c228=true→(0≤i219∧i219<r9.length)∧∀ x231:Bool,x231=at' r9 i219→((x231=true→(0≤i219∧i219<agent.nodes.length)∧∀ x237:aj,x237=at' agent.nodes i219→(m.nodes.length≤1048576)∧∀ r243:Bool,r243=k7 m.nodes x237.parent→((r243=true→(nE redex m x237.parent)∧∀ r245:Int,r245=rD redex m x237.parent→(I64 ((-1) - r245))∧∀ v247:Int,v247=(-1) - r245→(0≤atV218∧atV218<l220.length)∧∀ x250:aj,x250=at' l220 atV218→∀ l269:List aj,l269=l220.set atV218.toNat (aj.mk x250.control v247 x250.links)→(I64 (atV218+1))∧∀ v277:Int,v277=atV218+1→(I64 (i219+1))∧∀ v280:Int,v280=i219+1→K225 (v277,v280,l269))∧(r243=false→(I64 (atV218+1))∧∀ v283:Int,v283=atV218+1→(I64 (i219+1))∧∀ v286:Int,v286=i219+1→K225 (v283,v286,l220))))∧(x231=false→(I64 (i219+1))∧∀ v234:Int,v234=i219+1→K225 (atV218,v234,l220))))∧(c228=false→Z (Big.mk len71 l220 [] 0 l75 [])))) (0,0,r195)))) (0,l16)
theorem BD (redex agent:Big) (m:Match) (passed:List Int) (names:List Str) (h:nq redex agent m passed names):mO redex agent m passed names (fun y=>y=ky redex agent m passed names):=by
 unfold mO
 obtain⟨⟨sig,hV⟩,hrs,hM,hms,rfl,hnm⟩:=h
 have h8:=hV.len
 obtain⟨hN,hN2⟩:=Bq hV
 have hpl:=iC hV m
 simp only[forall_eq,decide_eq_true_eq,decide_eq_false_iff_not]
 refine⟨⟨hV.om,hms⟩,by simp only[I64];omega,by omega,?_⟩
 rw[show (agent.edges+(agent.outer.length:Int)).toNat=nQ agent from rfl]
 refine aw.upL (aR agent m).length (fun k t=>t.length=nQ agent∧∀ l ∈ (aR agent m).take k,at' t l=aW (aR agent m) l) _ ⟨by simp,by simp⟩ ?_
 rintro k t K hk ⟨ht,hI⟩ IH
 dsimp only
 refine⟨fun hc=>?_,fun hc=>?_⟩
 ·have hk2:k<(aR agent m).length:=by omega
  rw[bY hk2]
  have hr:=oz hV (List.getElem_mem hk2)
  refine⟨⟨by omega,hc⟩,⟨hr.1,by omega⟩,by simp only[I64];omega,IH hk2 _ ⟨by simpa using ht,fun l hl=>?_⟩⟩
  have hsp:=(gV (eO agent m)).1
  have hnd:∀ i j:Nat,(hi:i<(aR agent m).length)→(hj:j<(aR agent m).length)→i<j→(aR agent m)[i]<(aR agent m)[j]:=fun i j hi hj hij=>List.pairwise_iff_getElem.1 hsp i j hi hj hij
  have hrl:0≤l∧l<nQ agent:=by have:=oz hV (List.mem_of_mem_take hl);omega
  obtain⟨q,hq⟩:∃ q:Nat,l=q:=⟨l.toNat,by omega⟩
  rw[List.take_succ_eq_append_getElem hk2,List.mem_append,List.mem_singleton] at hl
  by_cases he:l=(aR agent m)[k]
  ·subst he
   rw[show at' (t.set (aR agent m)[k].toNat (k:Int)) (aR agent m)[k]=(k:Int) by
    rw[hq,bY (by rw[List.length_set];omega),Int.toNat_natCast,List.getElem_set_self]]
   refine (nV hk2 (fun j hj=>?_) (bY hk2)).symm
   rw[bY (by omega)]
   have:=hnd j k (by omega) hk2 hj
   omega
  ·have:=hI l (hl.resolve_right he)
   rw[← this,hq,bY (by rw[List.length_set];omega),bY (by omega),List.getElem_set_ne (by omega)]
 ·have hI':∀ l ∈ aR agent m,at' t l=aW (aR agent m) l:=fun l hl=>hI l (by rw[show k=(aR agent m).length by omega,List.take_length];exact hl)
  have hlk:∀ k:Int,0≤k→k<agent.nodes.length→∀ l ∈ (at' agent.nodes k).links,0≤l∧l<nQ agent:=fun k h0 h1 l hl=>by have:=hV.ox ⟨h0,h1⟩ l hl;omega
  have t1:sc agent (bM agent m) true t false=qk agent (dy agent m) (fun l=>aW (aR agent m) l) false:=xp hV.om (fun k h0 h1=>by rw[DV h0 h1];simp) fun k h0 h1 hk l hl=>hI' l (nN h0 h1 hk hl)
  rw[t1,List.nil_append]
  refine⟨by simp;omega,⟨hV.om,by simp,fun k h0 h1=>by have:=hV.jw ⟨h0,h1⟩;omega,fun k h0 h1 _ l hl=>by have:=hlk k h0 h1 l hl;omega⟩,?_⟩
  refine aw.up agent.nodes.length (fun s=>s.2.1) (fun k (t:Int × List aj)=>(t.1,(k:Int),t.2)) (fun _ _=>rfl) (fun i t=>t=(er (dy agent m) i,(bH (dy agent m) agent.nodes.length).map fun k=>if k<(i:Int) then fq redex agent m k else cp (dy agent m) (fun l=>aW (aR agent m) l) false agent k)) (0,qk agent (dy agent m) (fun l=>aW (aR agent m) l) false) rfl ?_ ?_
  ·refine Prod.ext rfl ?_
   refine List.map_congr_left fun k hk=>?_
   rw[if_neg (by have:=((cx _).1 hk).1;omega)]
  rintro i _ K hi rfl IH
  dsimp only
  have c1:=qG (dy agent m) i
  have hcast:(i:Int)+1=((i+1:Nat):Int):=by omega
  refine⟨fun hc=>⟨⟨by omega,by simp;omega⟩,?_⟩,fun hc=>?_⟩
  ·have hir:(0:Int)≤i∧(i:Int)<agent.nodes.length:=⟨by omega,hc⟩
   rw[DV hir.1 hir.2]
   refine⟨fun h1=>⟨hir,hms,fun h2=>?_,fun h2=>?_⟩,fun h1=>?_⟩
   ·have hp:(at' agent.nodes (i:Int)).parent ∈ m.nodes:=dY.1 h2
    have hin:=Eu hM hir.1 hir.2 (o4.1 h1).2 hp
    have him:(i:Int) ∈ bH (dy agent m) agent.nodes.length:=(cx _).2 ⟨hir,h1⟩
    have hcl:=(dg (bH (dy agent m) agent.nodes.length) (i:Int)).2.1
    rw[kn _ him,Int.toNat_natCast] at hcl
    have hat:=AG him
    rw[Int.toNat_natCast] at hat
    obtain⟨c,hcc⟩:∃ c:Nat,er (dy agent m) i=c:=⟨(er (dy agent m) i).toNat,by omega⟩
    have hx:at' ((bH (dy agent m) agent.nodes.length).map fun k=>if k<(i:Int) then fq redex agent m k else cp (dy agent m) (fun l=>aW (aR agent m) l) false agent k) (er (dy agent m) i)=cp (dy agent m) (fun l=>aW (aR agent m) l) false agent i:=by
     rw[hcc] at hat hcl ⊢
     rw[bY (by simpa using hcl),List.getElem_map]
     rw[bY (by omega)] at hat
     rw[hat,if_neg (by omega)]
    have hsl:=dg redex.sites (aW m.nodes (at' agent.nodes (i:Int)).parent)
    refine⟨⟨hrs,hms,hp,hin⟩,by simp only[rD,tJ,I64];omega,⟨by omega,by simpa using hcl⟩,by simp only[I64];omega,by simp only[I64];omega,?_⟩
    rw[hx,hcast]
    refine IH (by omega) (_,_) (Prod.ext (w7 _ h1).symm ?_)
    have hset:=EE (dy agent m) agent.nodes.length (fun k=>if k<(i:Int) then fq redex agent m k else cp (dy agent m) (fun l=>aW (aR agent m) l) false agent k) him
    rw[Int.toNat_natCast] at hset
    refine (hset _).trans (List.map_congr_left fun k hk=>?_)
    by_cases hki:k=i
    ·subst hki
     rw[if_pos rfl,if_pos (by omega),fq,cp,if_pos hp]
    ·by_cases hkl:k<(i:Int)
     ·rw[if_neg hki,if_pos hkl,if_pos (by omega)]
     ·rw[if_neg hki,if_neg hkl,if_neg (by omega)]
   ·have hp:(at' agent.nodes (i:Int)).parent ∉ m.nodes:=mw.1 h2
    obtain⟨p0,p1,p2⟩:=tO hV hir.1 hir.2 h1
    refine⟨by simp only[I64];omega,by simp only[I64];omega,?_⟩
    rw[hcast]
    refine IH (by omega) (_,_) (Prod.ext (w7 _ h1).symm (List.map_congr_left fun k hk=>?_))
    by_cases hki:k=i
    ·subst hki
     rw[if_neg (by omega),if_pos (by omega),fq,cp,if_neg hp,if_pos ⟨p0,p2.resolve_left hp⟩]
    ·by_cases hkl:k<(i:Int)
     ·rw[if_pos hkl,if_pos (by omega)]
     ·rw[if_neg hkl,if_neg (by omega)]
   ·refine⟨by simp only[I64];omega,?_⟩
    rw[hcast]
    refine IH (by omega) (_,_) (Prod.ext (Fu _ h1).symm (List.map_congr_left fun k hk=>?_))
    have hki:k ≠ i:=by rintro rfl;rw[((cx _).1 hk).2] at h1;cases h1
    by_cases hkl:k<(i:Int)
    ·rw[if_pos hkl,if_pos (by omega)]
    ·rw[if_neg hkl,if_neg (by omega)]
  ·rw[ky]
   congr 1
   refine List.map_congr_left fun k hk=>?_
   rw[if_pos (by have:=((cx _).1 hk).1;omega)]
abbrev eu (sig:Sig) (redex agent:Big) (m:Match):Prop:=ec sig redex agent m
noncomputable abbrev bD (sig:Sig) (redex agent:Big) (m:Match):Big × Bool:=bf sig redex agent m
def dD (sig:List Control) (redex:Big) (agent:Big) (m:Match) (Z:(Big × Bool)→Prop):Prop:=
 (fK sig redex agent m)∧∀ r8:(List Int) × (List Str) × Bool,r8=c7 sig redex agent m→((r8.2.2=true→(nq redex agent m r8.1 r8.2.1)∧∀ r11:Big,r11=ky redex agent m r8.1 r8.2.1→(nU sig r11)∧∀ r13:Big × Bool,r13=iq sig r11→Z (r13.1,r13.2))∧(r8.2.2=false→Z ((Big.mk 0 [] [] 0 [] []),false)))
theorem nL (sig:Sig) (redex agent:Big) (m:Match) (h:eu sig redex agent m):dD sig redex agent m (fun y=>y=bD sig redex agent m):=by
 unfold dD
 simp only[forall_eq,c7]
 refine⟨h,?_⟩
 rw[bD,bf,fZ]
 by_cases hm:(bE sig redex agent && ee redex agent m)=true
 ·rw[if_pos hm,if_pos hm,e9]
  have hp:=eD (Bool.and_eq_true _ _ ▸ hm).1
  by_cases h1:(aR agent m).length+redex.outer.length≤16
  ·rw[if_pos h1,if_pos h1]
   have hsl:=hp.r.slen
   refine⟨fun _=>⟨⟨⟨sig,hp.a⟩,by omega,nu.1 (Bool.and_eq_true _ _ ▸ hm).2,h.2.2.1,rfl,by rw[jC h1];omega⟩,?_,?_⟩,fun h2=>(by cases h2)⟩
   ·exact uu h.2.1 hp.a hp.r
   ·rfl
  ·rw[if_neg h1,if_neg h1]
   exact⟨fun h2=>(by cases h2),fun _=>rfl⟩
 ·rw[if_neg hm,if_neg hm]
  exact⟨fun h2=>(by cases h2),fun _=>rfl⟩
end Go.Ab.Vg
/- CutUnder (statement 30): the law. -/
namespace Go.Ab.Vg
set_option linter.unusedSimpArgs false
set_option linter.unusedVariables false
theorem qe {α:Type} {m:α→Int→α × Int} {f:α→Nat} (hm:∀ x k,f (m x k).1=f x):∀ (l:List α) (k:Int),((bq m l k).1.map f).sum=(l.map f).sum
 | [],_=>rfl
 | x::l,k=>by simp only[bq,List.map_cons,List.sum_cons,hm,qe hm l]
theorem qc {α:Type} {m:α→Int→α × Int} {q:α→Prop} (hm:∀ x k,q x→q (m x k).1):∀ (l:List α) (k:Int),(∀ x ∈ l,q x)→∀ x ∈ (bq m l k).1,q x
 | [],_,_=>by simp[bq]
 | x::l,k,h=>by
  intro y hy
  simp only[bq,List.mem_cons] at hy
  rcases hy with rfl | hy
  ·exact hm x k (h x (by simp))
  ·exact qc hm l _ (fun z hz=>h z (by simp[hz])) y hy
theorem HE {b:Big} (h:EqB b) (k:Int) (h0:0≤k) (hk:k≤1125899906842624):gl (bt b k).1 k∧jq (bt b k).1 k=(bt b k).2:=by
 obtain⟨⟨_,_,_,_,_,_,h6⟩,_⟩:=AP h k h0 hk
 obtain⟨h1,h2,h3,h4,h5⟩:=h
 have e1:((bu b.nodes k).1.map bh).sum=(b.nodes.map bh).sum:=qe (fun x k=>by simp[bh,bX,aX,dH,cM]) _ _
 have e2:∀ x ∈ (bu b.nodes k).1,x.links.length≤1048576:=qc (q:=fun x:aj=>x.links.length≤1048576) (fun x k hx=>by simpa[bX,aX,dH,cM] using hx) _ _ h2
 have hnl:(bu b.nodes k).1.length=b.nodes.length:=jd _ _ _
 have hb2:kI (bt b k).1=kI b:=by
  simp only[kI,bt,e1]
  simp[aX,bN,dh,dH,cM]
 refine⟨⟨h0,by show (bu b.nodes k).1.length≤_;omega,e2,?_,?_,?_,by omega⟩,vS b k h0⟩<;>simp only[bt,aX,bN,dh,dH,cM]<;>assumption
theorem eqV {sig:Sig} {b:Big} (h:bQ sig b):EqB b:=by
 refine⟨by have:=h.len;omega,fun z hz=>?_,by have:=h.slen;omega,by have:=h.outer;omega,by have:=h.inner;omega⟩
 obtain⟨i,hi,rfl⟩:=List.getElem_of_mem hz
 have:=h.jw (i:=(i:Int)) ⟨by omega,by omega⟩
 rw[bY hi] at this
 omega
theorem eqZ:EqB z0B:=⟨by simp,by simp,by simp,by simp,by simp⟩
theorem FW (b:Big) (k:Int):Big.mk b.roots (bt b k).1.nodes (bt b k).1.sites b.edges (bt b k).1.outer (bt b k).1.inner=(bt b k).1:=rfl
end Go.Ab.Vg
/- bf (statement 37): the law. -/
namespace Go.Ab.Vg
set_option linter.unusedSimpArgs false
set_option linter.unusedVariables false
theorem Gh (sig:Sig) (r a:Big) (m:Match):EqB (bf sig r a m).1:=by
 unfold bf
 split
 ·unfold e9
  split
  ·rw[lu]
   split
   ·rename_i h
    exact eqV (eX h)
   ·exact eqZ
  ·exact eqZ
 ·exact eqZ
abbrev EA (_:Sig) (_ _:Big) (_:Match):Bool:=true
abbrev sb (sig:Sig) (r a:Big) (m:Match):Prop:=AW sig∧jP r∧jP a∧um m
def mZ (aSig:List Control) (aRedex:Big) (aAgent:Big) (aM:Match) (Z:Bool→Prop):Prop:=
 (((0:Int)≤1048576∧(1048576:Int)≤1048576)∧AW aSig)∧∀ r7:Int,r7=szS szC aSig 1048576→∀ c8:Bool,c8=decide (r7<0)→((c8=true→Z true)∧(c8=false→(((0:Int)≤r7∧(r7:Int)≤1048576)∧jP aRedex)∧∀ r11:Int,r11=szB aRedex r7→∀ c12:Bool,c12=decide (r11<0)→((c12=true→Z true)∧(c12=false→(((0:Int)≤r11∧(r11:Int)≤1048576)∧jP aAgent)∧∀ r15:Int,r15=szB aAgent r11→∀ c17:Bool,c17=decide (r15<0)→((c17=true→Z true)∧(c17=false→(wh aM r15)∧∀ r20:Int,r20=szM aM r15→∀ c21:Bool,c21=decide (r20<0)→((c21=true→Z true)∧(c21=false→(cT aSig)∧∀ r25:List Control,r25=eP aSig→(b4 aRedex)∧∀ r27:Big,r27=cq aRedex→(b4 aAgent)∧∀ r29:Big,r29=cq aAgent→(eT aM)∧∀ r31:Match,r31=jx aM→(eu r25 r27 r29 r31)∧∀ r33:Big × Bool,r33=bD r25 r27 r29 r31→(cT aSig)∧∀ r42:List Control,r42=eP aSig→(b4 aRedex)∧∀ r53:Big,r53=cq aRedex→(b4 aAgent)∧∀ r84:Big,r84=cq aAgent→(eT aM)∧∀ r119:Match,r119=jx aM→(dw r42 r53 r84 r119)∧∀ r148:Big × Bool,r148=bf r42 r53 r84 r119→cW (fun (J192:Bool→Prop)=>(EqB r148.1)∧∀ r458:Bool,r458=decide (r148.1=r33.1)→((r458=true→∀ c459:Bool,c459 = !(r148.2 == r33.2)→J192 (c459))∧(r458=false→J192 (true)))) (fun b195=>((b195=true→Z false)∧(b195=false→(cT aSig)∧∀ r214:List Control,r214=eP aSig→(r42.length≤1048576)∧∀ r223:Bool,r223=decide (r42=r214)→((r223=true→(b4 aRedex)∧∀ r241:Big,r241=cq aRedex→(EqB r53)∧∀ r243:Bool,r243=decide (r53=r241)→((r243=true→(b4 aAgent)∧∀ r245:Big,r245=cq aAgent→(EqB r84)∧∀ r247:Bool,r247=decide (r84=r245)→((r247=true→(eT aM)∧∀ r249:Match,r249=jx aM→(vA r119 r249)∧∀ r251:Bool,r251=eqM r119 r249→((r251=true→(fJ r42 1)∧∀ r269:(List Control) × Int,r269=cL r42 1→(dZ r53 r269.2)∧∀ r292:Big × Int,r292=bt r53 r269.2→(dZ r84 r292.2)∧∀ r316:Big × Int,r316=bt r84 r292.2→(jL r119 r316.2)∧∀ r336:Match × Int,r336=ib r119 r316.2→cW (fun (J351:Bool→Prop)=>∀ c451:Bool,c451=decide (r336.2<0)→((c451=true→J351 (true))∧(c451=false→(EqB r148.1)∧∀ r454:Bool,r454=decide (r148.1=r33.1)→((r454=true→∀ c455:Bool,c455 = !(r148.2 == r33.2)→J351 (c455))∧(r454=false→J351 (true)))))) (fun b354=>((b354=true→Z false)∧(b354=false→(dZ r148.1 1)∧∀ r362:Big × Int,r362=bt r148.1 1→(gl (Big.mk r148.1.roots r362.1.nodes r362.1.sites r148.1.edges r362.1.outer r362.1.inner) 1)∧∀ r380:Int,r380=jq (Big.mk r148.1.roots r362.1.nodes r362.1.sites r148.1.edges r362.1.outer r362.1.inner) 1→∀ c381:Bool,c381=decide (r380<0)→((c381=true→Z false)∧(c381=false→∀ c383:Bool,c383=decide (r380 ≠ r362.2)→((c383=true→Z false)∧(c383=false→(cT aSig)∧∀ r391:List Control,r391=eP aSig→(b4 aRedex)∧∀ r393:Big,r393=cq aRedex→(b4 aAgent)∧∀ r395:Big,r395=cq aAgent→(eT aM)∧∀ r397:Match,r397=jx aM→(dw r391 r393 r395 r397)∧∀ r399:Big × Bool,r399=bf r391 r393 r395 r397→cW (fun (J431:Bool→Prop)=>(EqB r399.1)∧∀ r448:Bool,r448=decide (r399.1=r33.1)→((r448=true→∀ c449:Bool,c449 = !(r399.2 == r33.2)→J431 (c449))∧(r448=false→J431 (true)))) (fun b434=>((b434=true→Z false)∧(b434=false→(gl (Big.mk r148.1.roots r362.1.nodes r362.1.sites r148.1.edges r362.1.outer r362.1.inner) 1)∧∀ r442:Int,r442=jq (Big.mk r148.1.roots r362.1.nodes r362.1.sites r148.1.edges r362.1.outer r362.1.inner) 1→∀ c443:Bool,c443=decide (r442<0)→((c443=true→Z false)∧(c443=false→∀ c445:Bool,c445=decide (r442 ≠ r362.2)→((c445=true→Z false)∧(c445=false→Z true)))))))))))))))∧(r251=false→Z false)))∧(r247=false→Z false)))∧(r243=false→Z false)))∧(r223=false→Z false)))))))))))))
theorem Br (sig:Sig) (r a:Big) (m:Match) (h:sb sig r a m):mZ sig r a m (fun y=>y=EA sig r a m):=by
 unfold mZ
 simp only[forall_eq,decide_eq_true_eq,decide_eq_false_iff_not,eP,cq,jx,bD]
 obtain⟨h1,h2,h3,h4⟩:=h
 refine⟨⟨by omega,h1⟩,fun _=>trivial,fun s1=>?_⟩
 have l1:=jy szC sig 1048576 (by omega)
 refine⟨⟨by omega,h2⟩,fun _=>trivial,fun s2=>?_⟩
 have l2:=vf r (szS szC sig 1048576) (by omega)
 refine⟨⟨by omega,h3⟩,fun _=>trivial,fun s3=>?_⟩
 have l3:=vf a (szB r (szS szC sig 1048576)) (by omega)
 refine⟨⟨by omega,h4⟩,fun _=>trivial,fun s4=>?_⟩
 obtain⟨a1,a2,a3,a4⟩:=He s1 s2 s3 s4 h2 h3
 have hL:=Gh sig r a m
 generalize bf sig r a m=F at hL
 refine⟨a1,yl a2,yl a3,a4,⟨a2,a3,a4⟩,a1,yl a2,yl a3,a4,⟨a2,a3,a4⟩,fun c=>c=false,⟨hL,fun _=>by simp,fun h=>absurd trivial h⟩,?_⟩
 rintro _ rfl
 have k1:(cL sig 1).2=1+3 * sig.length:=rfl
 obtain⟨m1,m2⟩:=AP (Fi a2) (cL sig 1).2 (by omega) (by omega)
 obtain⟨m3,m4⟩:=AP (Fi a3) (bt r (cL sig 1).2).2 (by omega) (by omega)
 have k2:(ib m (bt a (bt r (cL sig 1).2).2).2).2=(bt a (bt r (cL sig 1).2).2).2+1 * m.nodes.length+1 * m.roots.length:=rfl
 obtain⟨p1,p2⟩:=AP hL 1 (by omega) (by omega)
 obtain⟨q1,q2⟩:=HE hL 1 (by omega) (by omega)
 simp only[FW,q2]
 refine⟨fun h=>(by cases h),fun _=>⟨a1,a1,fun _=>⟨yl a2,Fi a2,fun _=>⟨yl a3,Fi a3,fun _=>⟨a4,a4,fun _=>⟨⟨by omega,by omega,by omega⟩,m1,m3,⟨a4,by omega,by omega⟩,fun c=>c=false,⟨fun h=>by omega,fun _=>⟨hL,fun _=>by simp,fun h=>absurd trivial h⟩⟩,?_⟩,fun h=>by simp[eqM] at h⟩,fun h=>absurd trivial h⟩,fun h=>absurd trivial h⟩,fun h=>absurd trivial h⟩⟩
 rintro _ rfl
 refine⟨fun h=>(by cases h),fun _=>⟨p1,q1,fun h=>by omega,fun _=>⟨fun h=>absurd rfl h,fun _=>⟨a1,yl a2,yl a3,a4,⟨a2,a3,a4⟩,fun c=>c=false,⟨hL,fun _=>by simp,fun h=>absurd trivial h⟩,?_⟩⟩⟩⟩
 rintro _ rfl
 exact⟨fun h=>(by cases h),fun _=>⟨q1,fun h=>by omega,fun _=>⟨fun h=>absurd rfl h,fun _=>trivial⟩⟩⟩
end Go.Ab.Vg
/- Walks by program for YtbikfokhjdjfpaaGreatDoorAbL2k. -/
namespace Go.Ab.Vg
open Go.Proofs
set_option maxRecDepth 100000
set_option linter.unusedSimpArgs false
set_option linter.unusedVariables false
attribute [local simp] aj.cells aA.cells al gp aL bC pA
theorem GN:Ent Tryz.prog 245:=Ent.of Tryz.func245 (by kernel_rfl) rfl
theorem ya (b:Big) (parent:Int) (Z:(List Int)→Prop) (h:mq b parent Z):a7 Tryz.prog 245 [.agg (bC false b),int parent] (.s [.c]) (fun r=>∃ y:List Int,Z y∧r = .list true (y.map al)):=by
 unfold mq at h
 have sp:Sep bc 0 [] []:=Sep.nil (by simp)
 refine a7.of Tryz.func245 rfl Tryz.ntmps245 (by simp) fun Q hQ=>?_
 refine aa.cut (fun ρ H n=>(ρ 0 = .agg (bC false b)∧ρ 1=int parent)∧Sep H n [] []) (by refine⟨by simp ,sp⟩) ?_
 rintro ρ H n1 ⟨hh,sp⟩
 refine zE fun k' hk'=>?_
 simp[hh]
 apply hk'
 refine aa.cut (fun ρ H n=>((ρ 1=int parent∧ρ 2=pA n1 2)∧H (n1,2)=some ⟨6,[bC false b]⟩)∧Sep H n [] [(n1,2)]) (by refine⟨by simp[hh],sp.var⟩) ?_
 clear hh
 rintro ρ H n3 ⟨⟨hh,a⟩,sp⟩
 refine zE fun k' hk'=>?_
 simp[hh,a]
 apply hk'
 refine aa.cut (fun ρ H n=>∃ (v5:ag),((ρ 1=int parent∧ρ 2=pA n1 2∧ρ 5=v5)∧H (n1,2)=some ⟨6,[bC false b]⟩)∧Sep H n [oI v5 ([]:List Int)] [(n1,2)]) (by refine⟨.arr (n3,7) 0 0 0,by simp[hh,a],(Sep.addEmpty (l:=[.c]) sp)⟩) ?_
 clear hh a
 rintro ρ H n6 ⟨v5,⟨hh,a⟩,sp⟩
 refine aa.seq ?_
 refine zE fun k' hk'=>?_
 simp[hh,a]
 apply hk'
 refine aa.block ?_
 refine aa.aw h (fun (sJ:Int × (List Int)) ρ H n=>match sJ with | (i14,g)=>∃ (i:ag),((ρ 1=int parent∧ρ 2=pA n1 2∧ρ 5=i∧ρ 6=int i14)∧H (n1,2)=some ⟨6,[bC false b]⟩)∧Sep H n [oI i g] [(n1,2)]) (by refine⟨v5,by simp[hh,a],sp⟩) ?_
 clear hh a
 rintro⟨i14,g⟩ ρ H n17 K h ⟨i,⟨hh,a⟩,sp⟩ p
 refine aa.seq ?_
 refine zE fun k' hk'=>?_
 obtain⟨R,t,h⟩:=atm h
 have f21:=fun H=>ax (H:=H) (fr:=false) (f:=(aj.cells false)) bj t
 obtain⟨u,A,h⟩:=atm h
 have f23:=aT (k:=.i64) A
 simp[hh,a,f21,f23,-ai,-aH]
 apply hk'
 refine aa.ite (b:=u) (by simp[hh,a]) (fun d=>?_) (fun d=>?_)
 ·replace h:=h.1 d
  refine aa.skip ?_
  refine aa.seq ?_
  refine aa.block ?_
  refine zE fun k' hk'=>?_
  obtain⟨B,h⟩:=h
  obtain⟨T,C,h⟩:=atm h
  have f26:=fun H=>aE (H:=H) (fr:=false) (f:=(aj.cells false)) (k:=.i64) bj (fun _=>rfl) B C
  obtain⟨D,E,h⟩:=atm h
  have f28:=cJ (k:=.i64) E
  simp[hh,a,f26,f28,d,-ah,-ai]
  apply hk'
  refine aa.ite (b:=D) (by simp[hh,a,d]) (fun e=>?_) (fun e=>?_)
  ·replace h:=h.1 e
   refine zF fun k' hk'=>?_
   obtain⟨F,h⟩:=h
   obtain⟨o,G,h⟩:=atm h
   simp[hh,a,d,e,-ba]
   refine a8 [] [] [[int i14]] [al i14] sp aO (by simp) (by simp) (by simp) (by simp[-ay,o1x]) (bz (az.v _ az.nil)) (by simp) (by simpa using F) ?_
   rintro v31 I n33 sp J U
   replace sp:Sep I n33 [oI v31 o] [(n1,2)]:=Sep.ap G sp
   have a:=(J _ (by simp)).trans a
   simp[hh,a,d,e]
   apply hk'
   refine aa.cut (fun ρ H n=>∃ (v37:ag),((ρ 1=int parent∧ρ 2=pA n1 2∧ρ 5=v37∧ρ 6=int i14)∧H (n1,2)=some ⟨6,[bC false b]⟩)∧Sep H n [oI v37 o] [(n1,2)]) (by refine⟨v31,by simp[hh,a,d,e],sp⟩) ?_
   clear hh a
   rintro ρ H n38 ⟨v37,⟨hh,a⟩,sp⟩
   refine aa.inBlock ?_
   refine zF fun k' hk'=>?_
   obtain⟨L,h⟩:=h
   obtain⟨v40,M,h⟩:=atm h
   have f41:=aI L M
   simp[hh,a,f41,-ai]
   apply hk'
   refine p (v40,o) _ _ _ h (by refine⟨v37,by simp[hh,a],sp⟩)
  replace h:=h.2 e
  refine aa.skip ?_
  refine aa.inBlock ?_
  refine zF fun k' hk'=>?_
  obtain⟨N,h⟩:=h
  obtain⟨q,O,h⟩:=atm h
  have f44:=aI N O
  simp[hh,a,f44,d,e,-ai]
  apply hk'
  refine aa.cut (fun ρ H n=>∃ (j:ag),((ρ 1=int parent∧ρ 2=pA n1 2∧ρ 5=j∧ρ 6=int q)∧H (n1,2)=some ⟨6,[bC false b]⟩)∧Sep H n [oI j g] [(n1,2)]) (by refine⟨i,by simp[hh,a,f44,d,e,-ai],sp⟩) ?_
  clear hh a
  rintro ρ H V ⟨j,⟨hh,a⟩,sp⟩
  refine p (q,g) _ _ _ h (by refine⟨j,by simp[hh,a],sp⟩)
 replace h:=h.2 d
 refine aa.exit rfl ?_
 refine zE fun k' hk'=>?_
 simp[hh,a,d]
 apply hk'
 exact aa.aV (v:=i) Tryz.func245 Tryz.results245 (by simp[hh,a,d]) (hQ _ _ _ _ (Sep.sub (ids':=[]) sp (by simp)) ⟨g,h,rfl⟩)
theorem tW (b:Big) (parent:Int) (hp:ef b parent):a7 Tryz.prog 245 [.agg (bC false b),int parent] (.s [.c]) (fun r=>r = .list true ((pE b parent).map al)):=(ya b parent _ (Da b parent hp)).mono (by rintro _ ⟨_,rfl,rfl⟩;rfl)
theorem Fx:Ent Tryz.prog 163:=Ent.of Tryz.func163 (by kernel_rfl) rfl
theorem vN (b:Big) (parent:Int) (Z:(List Int)→Prop) (h:kL b parent Z):a7 Tryz.prog 163 [.agg (bC false b),int parent] (.s [.c]) (fun r=>∃ y:List Int,Z y∧r = .list true (y.map al)):=by
 unfold kL at h
 have sp:Sep bc 0 [] []:=Sep.nil (by simp)
 refine a7.of Tryz.func163 rfl Tryz.ntmps163 (by simp) fun Q hQ=>?_
 refine aa.cut (fun ρ H n=>(ρ 0 = .agg (bC false b)∧ρ 1=int parent)∧Sep H n [] []) (by refine⟨by simp ,sp⟩) ?_
 rintro ρ H n1 ⟨hh,sp⟩
 refine zE fun k' hk'=>?_
 simp[hh]
 apply hk'
 refine aa.cut (fun ρ H n=>((ρ 1=int parent∧ρ 2=pA n1 2)∧H (n1,2)=some ⟨6,[bC false b]⟩)∧Sep H n [] [(n1,2)]) (by refine⟨by simp[hh],sp.var⟩) ?_
 clear hh
 rintro ρ H n3 ⟨⟨hh,a⟩,sp⟩
 refine zE fun k' hk'=>?_
 simp[hh,a]
 apply hk'
 refine aa.cut (fun ρ H n=>∃ (v5:ag),((ρ 1=int parent∧ρ 2=pA n1 2∧ρ 5=v5)∧H (n1,2)=some ⟨6,[bC false b]⟩)∧Sep H n [oI v5 ([]:List Int)] [(n1,2)]) (by refine⟨.arr (n3,7) 0 0 0,by simp[hh,a],(Sep.addEmpty (l:=[.c]) sp)⟩) ?_
 clear hh a
 rintro ρ H n6 ⟨v5,⟨hh,a⟩,sp⟩
 refine aa.seq ?_
 refine zE fun k' hk'=>?_
 simp[hh,a]
 apply hk'
 refine aa.block ?_
 refine aa.aw h (fun (sJ:Int × (List Int)) ρ H n=>match sJ with | (i14,g)=>∃ (i:ag),((ρ 1=int parent∧ρ 2=pA n1 2∧ρ 5=i∧ρ 6=int i14)∧H (n1,2)=some ⟨6,[bC false b]⟩)∧Sep H n [oI i g] [(n1,2)]) (by refine⟨v5,by simp[hh,a],sp⟩) ?_
 clear hh a
 rintro⟨i14,g⟩ ρ H n17 K h ⟨i,⟨hh,a⟩,sp⟩ p
 refine aa.seq ?_
 refine zE fun k' hk'=>?_
 obtain⟨R,t,h⟩:=atm h
 have f21:=fun H=>ax (H:=H) (fr:=false) (f:=al) aO t
 obtain⟨u,A,h⟩:=atm h
 have f23:=aT (k:=.i64) A
 simp[hh,a,f21,f23,-ai,-aH]
 apply hk'
 refine aa.ite (b:=u) (by simp[hh,a]) (fun d=>?_) (fun d=>?_)
 ·replace h:=h.1 d
  refine aa.skip ?_
  refine aa.seq ?_
  refine aa.block ?_
  refine zE fun k' hk'=>?_
  obtain⟨B,h⟩:=h
  obtain⟨T,C,h⟩:=atm h
  have f26:=fun H=>aE (H:=H) (fr:=false) (f:=al) (k:=.i64) aO (fun _=>rfl) B C
  obtain⟨D,E,h⟩:=atm h
  have f28:=cJ (k:=.i64) E
  simp[hh,a,f26,f28,d,-ah,-ai]
  apply hk'
  refine aa.ite (b:=D) (by simp[hh,a,d]) (fun e=>?_) (fun e=>?_)
  ·replace h:=h.1 e
   refine zF fun k' hk'=>?_
   obtain⟨F,h⟩:=h
   obtain⟨o,G,h⟩:=atm h
   simp[hh,a,d,e,-ba]
   refine a8 [] [] [[int i14]] [al i14] sp aO (by simp) (by simp) (by simp) (by simp[-ay,o1x]) (bz (az.v _ az.nil)) (by simp) (by simpa using F) ?_
   rintro v31 I n33 sp J U
   replace sp:Sep I n33 [oI v31 o] [(n1,2)]:=Sep.ap G sp
   have a:=(J _ (by simp)).trans a
   simp[hh,a,d,e]
   apply hk'
   refine aa.cut (fun ρ H n=>∃ (v37:ag),((ρ 1=int parent∧ρ 2=pA n1 2∧ρ 5=v37∧ρ 6=int i14)∧H (n1,2)=some ⟨6,[bC false b]⟩)∧Sep H n [oI v37 o] [(n1,2)]) (by refine⟨v31,by simp[hh,a,d,e],sp⟩) ?_
   clear hh a
   rintro ρ H n38 ⟨v37,⟨hh,a⟩,sp⟩
   refine aa.inBlock ?_
   refine zF fun k' hk'=>?_
   obtain⟨L,h⟩:=h
   obtain⟨v40,M,h⟩:=atm h
   have f41:=aI L M
   simp[hh,a,f41,-ai]
   apply hk'
   refine p (v40,o) _ _ _ h (by refine⟨v37,by simp[hh,a],sp⟩)
  replace h:=h.2 e
  refine aa.skip ?_
  refine aa.inBlock ?_
  refine zF fun k' hk'=>?_
  obtain⟨N,h⟩:=h
  obtain⟨q,O,h⟩:=atm h
  have f44:=aI N O
  simp[hh,a,f44,d,e,-ai]
  apply hk'
  refine aa.cut (fun ρ H n=>∃ (j:ag),((ρ 1=int parent∧ρ 2=pA n1 2∧ρ 5=j∧ρ 6=int q)∧H (n1,2)=some ⟨6,[bC false b]⟩)∧Sep H n [oI j g] [(n1,2)]) (by refine⟨i,by simp[hh,a,f44,d,e,-ai],sp⟩) ?_
  clear hh a
  rintro ρ H V ⟨j,⟨hh,a⟩,sp⟩
  refine p (q,g) _ _ _ h (by refine⟨j,by simp[hh,a],sp⟩)
 replace h:=h.2 d
 refine aa.exit rfl ?_
 refine zE fun k' hk'=>?_
 simp[hh,a,d]
 apply hk'
 exact aa.aV (v:=i) Tryz.func163 Tryz.results163 (by simp[hh,a,d]) (hQ _ _ _ _ (Sep.sub (ids':=[]) sp (by simp)) ⟨g,h,rfl⟩)
theorem ld (b:Big) (parent:Int) (hp:du b parent):a7 Tryz.prog 163 [.agg (bC false b),int parent] (.s [.c]) (fun r=>r = .list true ((ju b parent).map al)):=(vN b parent _ (zY b parent hp)).mono (by rintro _ ⟨_,rfl,rfl⟩;rfl)
theorem ES:Ent Tryz.prog 207:=Ent.of Tryz.func207 (by kernel_rfl) rfl
theorem qv (b:Big) (parent:Int) (Z:((List Int) × (List Int))→Prop) (h:fL b parent Z):a7 Tryz.prog 207 [.agg (bC false b),int parent] (.t [.s [.c],.s [.c]]) (fun r=>∃ y:(List Int) × (List Int),Z y∧r = .tup [.list true (y.1.map al),.list true (y.2.map al)]):=by
 unfold fL at h
 have sp:Sep bc 0 [] []:=Sep.nil (by simp)
 refine a7.of Tryz.func207 rfl Tryz.ntmps207 (by simp) fun Q hQ=>?_
 refine aa.cut (fun ρ H n=>(ρ 0 = .agg (bC false b)∧ρ 1=int parent)∧Sep H n [] []) (by refine⟨by simp ,sp⟩) ?_
 rintro ρ H n1 ⟨hh,sp⟩
 refine zE fun k' hk'=>?_
 simp[hh]
 apply hk'
 refine aa.cut (fun ρ H n=>((ρ 1=int parent∧ρ 2=pA n1 2)∧H (n1,2)=some ⟨6,[bC false b]⟩)∧Sep H n [] [(n1,2)]) (by refine⟨by simp[hh],sp.var⟩) ?_
 clear hh
 rintro ρ H n3 ⟨⟨hh,a⟩,sp⟩
 refine zE fun k' hk'=>?_
 simp[hh,a]
 apply hk'
 refine aa.cut (fun ρ H n=>∃ (v6 v7:ag),((ρ 1=int parent∧ρ 2=pA n1 2∧ρ 6=v7∧ρ 7=v6)∧H (n1,2)=some ⟨6,[bC false b]⟩)∧Sep H n [oI v6 ([]:List Int),oI v7 ([]:List Int)] [(n1,2)]) (by refine⟨.arr (n3+1,13) 0 0 0,.arr (n3,12) 0 0 0,by simp[hh,a],(Sep.addEmpty (l:=[.c]) (Sep.addEmpty (l:=[.c]) sp))⟩) ?_
 clear hh a
 rintro ρ H n8 ⟨v6,v7,⟨hh,a⟩,sp⟩
 refine aa.seq ?_
 refine zE fun k' hk'=>?_
 obtain⟨ny,elen9,h⟩:=atm h
 have f10:=fun H=>ax (H:=H) (fr:=false) (f:=(aj.cells false)) bj elen9
 simp[hh,a,f10,-aH]
 apply hk'
 refine aa.block ?_
 refine aa.aw h (fun (sJ:Int × (List Int)) ρ H n=>match sJ with | (v20,g)=>∃ (v22 u:ag),((ρ 1=int parent∧ρ 2=pA n1 2∧ρ 6=u∧ρ 7=v22∧ρ 15 = .list false (b.nodes.map (aj.cells false))∧ρ 16=int ny∧ρ 17=int v20)∧H (n1,2)=some ⟨6,[bC false b]⟩)∧Sep H n [oI v22 ([]:List Int),oI u g] [(n1,2)]) (by refine⟨v6,v7,by simp[hh,a],sp⟩) ?_
 clear hh a
 rintro⟨v20,g⟩ ρ H n24 K h ⟨v22,u,⟨hh,a⟩,sp⟩ M
 refine zE fun k' hk'=>?_
 obtain⟨U,V,h⟩:=atm h
 have f28:=aT (k:=.i64) V
 simp[hh,a,f28,-ai]
 apply hk'
 refine aa.seq ?_
 refine aa.ite (b:=U) (by simp[hh,a]) (fun p=>?_) (fun p=>?_)
 ·replace h:=h.1 p
  refine aa.skip ?_
  refine aa.seq ?_
  refine aa.block ?_
  refine zE fun k' hk'=>?_
  obtain⟨W,h⟩:=h
  obtain⟨I,X,h⟩:=atm h
  have f31:=fun H=>aE (H:=H) (fr:=false) (f:=(aj.cells false)) (k:=.i64) bj (fun _=>rfl) W X
  simp[hh,a,f31,p,-ah]
  apply hk'
  refine aa.cut (fun ρ H n=>∃ (q C:ag),((ρ 1=int parent∧ρ 2=pA n1 2∧ρ 6=C∧ρ 7=q∧ρ 8=int v20∧ρ 9=pA n24 9∧ρ 15 = .list false (b.nodes.map (aj.cells false))∧ρ 16=int ny∧ρ 17=int v20)∧H (n1,2)=some ⟨6,[bC false b]⟩∧H (n24,9)=some ⟨3,[[int I.control,int I.parent,.list false (I.links.map al)]]⟩)∧Sep H n [oI q ([]:List Int),oI C g] [(n24,9),(n1,2)]) (by refine⟨v22,u,by simp[hh,a,f31,p,-ah],sp.var⟩) ?_
  clear hh a
  rintro ρ H n35 ⟨q,C,⟨hh,a,e⟩,sp⟩
  refine zE fun k' hk'=>?_
  obtain⟨Y,ab,h⟩:=atm h
  have f37:=cJ (k:=.i64) ab
  simp[hh,a,e,f37,-ai]
  apply hk'
  refine aa.ite (b:=Y) (by simp[hh,a,e]) (fun i=>?_) (fun i=>?_)
  ·replace h:=h.1 i
   refine zF fun k' hk'=>?_
   obtain⟨ac,h⟩:=h
   obtain⟨J,ad,h⟩:=atm h
   simp[hh,a,e,i,-ba]
   refine a8 [] [oI q ([]:List Int)] [[int v20]] [al v20] sp.f1 aO (by simp) (by simp) (by simp) (by simp[-ay,o1x]) (bz (az.v _ az.nil)) (by simp) (by simpa using ac) ?_
   rintro v40 af am sp N b8
   replace sp:Sep af am [oI v40 J,oI q ([]:List Int)] [(n24,9),(n1,2)]:=Sep.ap ad sp
   have a:=(N _ (by simp)).trans a
   have e:=(N _ (by simp)).trans e
   simp[hh,a,e,i]
   apply hk'
   refine aa.cut (fun ρ H n=>∃ (v46 D:ag),((ρ 1=int parent∧ρ 2=pA n1 2∧ρ 6=v46∧ρ 7=D∧ρ 15 = .list false (b.nodes.map (aj.cells false))∧ρ 16=int ny∧ρ 17=int v20)∧H (n1,2)=some ⟨6,[bC false b]⟩)∧Sep H n [oI v46 J,oI D ([]:List Int)] [(n1,2)]) (by refine⟨v40,q,by simp[hh,a,e,i],(Sep.sub sp (by simp +contextual))⟩) ?_
   clear hh a e
   rintro ρ H b9 ⟨v46,D,⟨hh,a⟩,sp⟩
   refine aa.inBlock ?_
   refine zF fun k' hk'=>?_
   obtain⟨an,h⟩:=h
   obtain⟨ao,aM,h⟩:=atm h
   have f51:=aI an aM
   simp[hh,a,f51,-ai]
   apply hk'
   refine M (ao,J) _ _ _ h (by refine⟨D,v46,by simp[hh,a],sp.f1⟩)
  replace h:=h.2 i
  refine aa.skip ?_
  refine aa.inBlock ?_
  refine zF fun k' hk'=>?_
  obtain⟨a0,h⟩:=h
  obtain⟨v53,a1,h⟩:=atm h
  have f54:=aI a0 a1
  simp[hh,a,e,f54,i,-ai]
  apply hk'
  refine M (v53,g) _ _ _ h (by refine⟨q,C,by simp[hh,a,e,i],(Sep.sub sp (by simp +contextual))⟩)
 replace h:=h.2 p
 refine aa.exit rfl ?_
 refine aa.seq ?_
 refine zE fun k' hk'=>?_
 obtain⟨O,a2,h⟩:=atm h
 have f56:=fun H=>ax (H:=H) (fr:=false) (f:=al) aO a2
 simp[hh,a,f56,p,-aH]
 apply hk'
 refine aa.block ?_
 refine aa.aw h (fun (sJ:Int × (List Int)) ρ H n=>match sJ with | (A,E)=>∃ (B j:ag),(ρ 1=int parent∧ρ 6=j∧ρ 7=B∧ρ 32 = .list false (b.sites.map al)∧ρ 33=int O∧ρ 34=int A)∧Sep H n [oI B E,oI j g] []) (by refine⟨v22,u,by simp[hh,a,p],(Sep.sub sp (by simp +contextual))⟩) ?_
 clear hh a
 rintro⟨A,E⟩ ρ H cc K h ⟨B,j,hh,sp⟩ R
 refine zE fun k' hk'=>?_
 obtain⟨a3,a4,h⟩:=atm h
 have f74:=aT (k:=.i64) a4
 simp[hh,f74,-ai]
 apply hk'
 refine aa.seq ?_
 refine aa.ite (b:=a3) (by simp[hh]) (fun d=>?_) (fun d=>?_)
 ·replace h:=h.1 d
  refine aa.skip ?_
  refine aa.seq ?_
  refine aa.block ?_
  refine zE fun k' hk'=>?_
  obtain⟨a5,h⟩:=h
  obtain⟨ce,a9,h⟩:=atm h
  have f77:=fun H=>aE (H:=H) (fr:=false) (f:=al) (k:=.i64) aO (fun _=>rfl) a5 a9
  simp[hh,f77,d,-ah]
  apply hk'
  refine zE fun k' hk'=>?_
  obtain⟨bd,be,h⟩:=atm h
  have f79:=cJ (k:=.i64) be
  simp[hh,f79,d,-ai]
  apply hk'
  refine aa.ite (b:=bd) (by simp[hh,d]) (fun o=>?_) (fun o=>?_)
  ·replace h:=h.1 o
   refine zF fun k' hk'=>?_
   obtain⟨bi,h⟩:=h
   obtain⟨L,bk,h⟩:=atm h
   simp[hh,d,o,-ba]
   refine a8 [] [oI j g] [[int A]] [al A] sp aO (by simp) (by simp) (by simp) (by simp[-ay,o1x]) (bz (az.v _ az.nil)) (by simp) (by simpa using bi) ?_
   rintro T bs bv sp ci cj
   replace sp:Sep bs bv [oI T L,oI j g] []:=Sep.ap bk sp
   simp[hh,d,o]
   apply hk'
   refine aa.cut (fun ρ H n=>∃ (F G:ag),(ρ 1=int parent∧ρ 6=G∧ρ 7=F∧ρ 32 = .list false (b.sites.map al)∧ρ 33=int O∧ρ 34=int A)∧Sep H n [oI F L,oI G g] []) (by refine⟨T,j,by simp[hh,d,o],sp⟩) ?_
   clear hh
   rintro ρ H cl ⟨F,G,hh,sp⟩
   refine aa.inBlock ?_
   refine zF fun k' hk'=>?_
   obtain⟨b0,h⟩:=h
   obtain⟨b1,b2,h⟩:=atm h
   have f93:=aI b0 b2
   simp[hh,f93,-ai]
   apply hk'
   refine R (b1,L) _ _ _ h (by refine⟨F,G,by simp[hh],sp⟩)
  replace h:=h.2 o
  refine aa.skip ?_
  refine aa.inBlock ?_
  refine zF fun k' hk'=>?_
  obtain⟨b3,h⟩:=h
  obtain⟨b5,b7,h⟩:=atm h
  have f96:=aI b3 b7
  simp[hh,f96,d,o,-ai]
  apply hk'
  refine R (b5,E) _ _ _ h (by refine⟨B,j,by simp[hh,d,o],sp⟩)
 replace h:=h.2 d
 refine aa.exit rfl ?_
 refine zE fun k' hk'=>?_
 simp[hh,d]
 apply hk'
 exact aa.ta (v:=j) (w:=B) Tryz.func207 Tryz.results207 (by simp[hh,d]) (by simp[hh,d]) (hQ _ _ _ _ (Sep.sub (ids':=[]) (Sep.fy (az.own (az.own az.nil)) sp.f1) (by simp)) ⟨(g,E),h,rfl⟩)
theorem ez (b:Big) (parent:Int) (hp:bL b parent):a7 Tryz.prog 207 [.agg (bC false b),int parent] (.t [.s [.c],.s [.c]]) (fun r=>r = .tup [.list true (((dX b parent).1).map al),.list true (((dX b parent).2).map al)]):=(qv b parent _ (tk b parent hp)).mono (by rintro _ ⟨_,rfl,rfl⟩;rfl)
end Go.Ab.Vg
