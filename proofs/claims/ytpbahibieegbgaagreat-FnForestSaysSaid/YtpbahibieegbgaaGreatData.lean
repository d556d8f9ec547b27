/- The data of the laws,in Lean. -/
import Derived.Test.YtpbahibieegbgaaGreatAm4
namespace Go.AM
open Go
abbrev aS (u:Bool) (l:List (List UInt8)):AV:=.sl u none 1 l.length (fS l)
abbrev aB (u:Bool) (l:List UInt8):AV:=.sl u none 1 l.length (fB l)
theorem cl_S (nl:Option Bool) (es n:Nat) (l:List (List UInt8)):(AV.sl true nl es n (fS l)).cl=True:=by
 simp only[eq_iff_iff,iff_true]
 exact cl_gf (fun a c hc=>by simp[cS] at hc;subst hc;trivial)
theorem cl_B (nl:Option Bool) (es n:Nat) (l:List UInt8):(AV.sl true nl es n (fB l)).cl=True:=by
 simp only[eq_iff_iff,iff_true]
 exact cl_gf (fun a c hc=>by simp[cB] at hc;subst hc;trivial)
def sm {α:Type} (f:α→Nat):List α→Nat
 |[]=>0
 |r::l=>f r+sm f l
theorem sm_take {α:Type} {f:α→Nat} {d:α}:∀{l:List α} {i:Nat},i<l.length→sm f (l.take (i+1))=sm f (l.take i)+f (l.getD i d)
 |[],i,h=>by simp at h
 |r::l,0,h=>by simp[sm]
 |r::l,i+1,h=>by
  have:=sm_take (f:=f) (d:=d) (l:=l) (i:=i) (by simpa using h)
  simp only[List.take_succ_cons,sm,this,List.getD_cons_succ]
  omega
theorem sm_le {α:Type} {f:α→Nat}:∀{l:List α} {i:Nat},sm f (l.take i)≤sm f l
 |[],i=>by simp
 |r::l,0=>by simp[sm]
 |r::l,i+1=>by have:=sm_le (f:=f) (l:=l) (i:=i);simp only[List.take_succ_cons,sm];omega
theorem sm_mem {α:Type} {f:α→Nat}:∀{l:List α} {x:α},x∈l→f x≤sm f l
 |y::l,x,h=>by
  rcases List.mem_cons.1 h with rfl|h
  ·simp only[sm];omega
  ·have:=sm_mem (f:=f) h;simp only[sm];omega
theorem getD_mem {α:Type} {d:α} {l:List α} {i:Nat} (h:i<l.length):l.getD i d∈l:=by
 simp[List.getD,h]
theorem getD_ext {α:Type} {d:α} {l m:List α} (hl:l.length=m.length) (h:∀j,j<l.length→l.getD j d=m.getD j d):l=m:=by
 refine List.ext_getElem hl (fun i h1 h2=>?_)
 have:=h i h1
 simpa [List.getD,h1,h2] using this
def less (left:Int) (n:Nat):Int:=if left<n then -1 else left - n
def tot:List (List Int)→Nat:=sm List.length
def szW (l:List (List Int)):Nat:=l.length+tot l
def okI (B:Nat) (l:List Int):Prop:=l.length≤B∧∀x∈l,inK .i64 x
def okS (B:Nat) (l:List (List UInt8)):Prop:=l.length≤B∧∀x∈l,x.length≤B
def okL (B:Nat) (l:List (List Int)):Prop:=l.length≤B∧∀x∈l,okI B x
structure DFrac where
 num:Int
 den:Int
 deriving DecidableEq,Inhabited
def cFrac (x:DFrac):List AV:=[.int .i64 x.num,.int .i64 x.den]
def fFrac (l:List DFrac):Nat→Nat→AV:=gf cFrac default l
theorem fFrac_at (l:List DFrac) (i j:Nat):fFrac l i j=gl .junk (cFrac (l.getD i default)) j:=rfl
abbrev aFrac (u:Bool) (l:List DFrac):AV:=.sl u none 2 l.length (fFrac l)
theorem cl_Frac (nl:Option Bool) (es n:Nat) (l:List DFrac):(AV.sl true nl es n (fFrac l)).cl=True:=by
 simp only[eq_iff_iff,iff_true]
 refine cl_gf (fun a c hc=>?_)
 simp only[cFrac,List.mem_cons,List.not_mem_nil,or_false] at hc
 rcases hc with rfl|rfl<;>first|trivial|exact of_eq_true (cl_I _ _ _ _)
def okFrac (_:Nat) (x:DFrac):Prop:=inK .i64 x.num∧inK .i64 x.den
structure DAttr where
 name:List UInt8
 cuts:List (Int)
 values:List (List UInt8)
 deriving DecidableEq,Inhabited
def cAttr (u _:Bool) (x:DAttr):List AV:=[.str x.name,aI u x.cuts,aS u x.values]
def fAttr (v:Bool) (l:List DAttr):Nat→Nat→AV:=gf (cAttr v v) default l
theorem fAttr_at (v:Bool) (l:List DAttr) (i j:Nat):fAttr v l i j=gl .junk (cAttr v v (l.getD i default)) j:=rfl
abbrev aAttr (u v:Bool) (l:List DAttr):AV:=.sl u none 3 l.length (fAttr v l)
theorem cl_Attr (nl:Option Bool) (es n:Nat) (l:List DAttr):(AV.sl true nl es n (fAttr true l)).cl=True:=by
 simp only[eq_iff_iff,iff_true]
 refine cl_gf (fun a c hc=>?_)
 simp only[cAttr,List.mem_cons,List.not_mem_nil,or_false] at hc
 rcases hc with rfl|rfl|rfl<;>first|trivial|exact of_eq_true (cl_I _ _ _ _)|exact of_eq_true (cl_S _ _ _ _)
def okAttr (B:Nat) (x:DAttr):Prop:=x.name.length≤B∧okI B x.cuts∧okS B x.values
def okAttrS (B:Nat) (l:List DAttr):Prop:=l.length≤B∧∀x∈l,okAttr B x
structure DSchema where
 attrs:List (DAttr)
 classes:List (List UInt8)
 deriving DecidableEq,Inhabited
def cSchema (u v:Bool) (x:DSchema):List AV:=[aAttr u v x.attrs,aS u x.classes]
def fSchema (v:Bool) (l:List DSchema):Nat→Nat→AV:=gf (cSchema v v) default l
theorem fSchema_at (v:Bool) (l:List DSchema) (i j:Nat):fSchema v l i j=gl .junk (cSchema v v (l.getD i default)) j:=rfl
abbrev aSchema (u v:Bool) (l:List DSchema):AV:=.sl u none 2 l.length (fSchema v l)
theorem cl_Schema (nl:Option Bool) (es n:Nat) (l:List DSchema):(AV.sl true nl es n (fSchema true l)).cl=True:=by
 simp only[eq_iff_iff,iff_true]
 refine cl_gf (fun a c hc=>?_)
 simp only[cSchema,List.mem_cons,List.not_mem_nil,or_false] at hc
 rcases hc with rfl|rfl<;>first|trivial|exact of_eq_true (cl_Attr _ _ _ _)|exact of_eq_true (cl_S _ _ _ _)
def okSchema (B:Nat) (x:DSchema):Prop:=okAttrS B x.attrs∧okS B x.classes
structure DEx where
 bins:List (Int)
 cls:Int
 deriving DecidableEq,Inhabited
def cEx (u _:Bool) (x:DEx):List AV:=[aI u x.bins,.int .i64 x.cls]
def fEx (v:Bool) (l:List DEx):Nat→Nat→AV:=gf (cEx v v) default l
theorem fEx_at (v:Bool) (l:List DEx) (i j:Nat):fEx v l i j=gl .junk (cEx v v (l.getD i default)) j:=rfl
abbrev aEx (u v:Bool) (l:List DEx):AV:=.sl u none 2 l.length (fEx v l)
theorem cl_Ex (nl:Option Bool) (es n:Nat) (l:List DEx):(AV.sl true nl es n (fEx true l)).cl=True:=by
 simp only[eq_iff_iff,iff_true]
 refine cl_gf (fun a c hc=>?_)
 simp only[cEx,List.mem_cons,List.not_mem_nil,or_false] at hc
 rcases hc with rfl|rfl<;>first|trivial|exact of_eq_true (cl_I _ _ _ _)
def okEx (B:Nat) (x:DEx):Prop:=okI B x.bins∧inK .i64 x.cls
def okExS (B:Nat) (l:List DEx):Prop:=l.length≤B∧∀x∈l,okEx B x
structure DStats where
 totals:List (Int)
 cells:List (List (Int))
 deriving DecidableEq,Inhabited
def cStats (u v:Bool) (x:DStats):List AV:=[aI u x.totals,aL u v x.cells]
def fStats (v:Bool) (l:List DStats):Nat→Nat→AV:=gf (cStats v v) default l
theorem fStats_at (v:Bool) (l:List DStats) (i j:Nat):fStats v l i j=gl .junk (cStats v v (l.getD i default)) j:=rfl
abbrev aStats (u v:Bool) (l:List DStats):AV:=.sl u none 2 l.length (fStats v l)
theorem cl_Stats (nl:Option Bool) (es n:Nat) (l:List DStats):(AV.sl true nl es n (fStats true l)).cl=True:=by
 simp only[eq_iff_iff,iff_true]
 refine cl_gf (fun a c hc=>?_)
 simp only[cStats,List.mem_cons,List.not_mem_nil,or_false] at hc
 rcases hc with rfl|rfl<;>first|trivial|exact of_eq_true (cl_I _ _ _ _)|exact of_eq_true (cl_L _ _ _ _)
def okStats (B:Nat) (x:DStats):Prop:=okI B x.totals∧okL B x.cells
def zStats (x:DStats):Nat:=x.totals.length+szW x.cells
structure DFork where
 attr:Int
 at_:Int
 deriving DecidableEq,Inhabited
def cFork (x:DFork):List AV:=[.int .i64 x.attr,.int .i64 x.at_]
def fFork (l:List DFork):Nat→Nat→AV:=gf cFork default l
theorem fFork_at (l:List DFork) (i j:Nat):fFork l i j=gl .junk (cFork (l.getD i default)) j:=rfl
abbrev aFork (u:Bool) (l:List DFork):AV:=.sl u none 2 l.length (fFork l)
theorem cl_Fork (nl:Option Bool) (es n:Nat) (l:List DFork):(AV.sl true nl es n (fFork l)).cl=True:=by
 simp only[eq_iff_iff,iff_true]
 refine cl_gf (fun a c hc=>?_)
 simp only[cFork,List.mem_cons,List.not_mem_nil,or_false] at hc
 rcases hc with rfl|rfl<;>first|trivial|exact of_eq_true (cl_I _ _ _ _)
def okFork (_:Nat) (x:DFork):Prop:=inK .i64 x.attr∧inK .i64 x.at_
structure DRanked where
 fork:DFork
 merit:DFrac
 deriving DecidableEq,Inhabited
def cRanked (x:DRanked):List AV:=[.int .i64 x.fork.attr,.int .i64 x.fork.at_,.int .i64 x.merit.num,.int .i64 x.merit.den]
def fRanked (l:List DRanked):Nat→Nat→AV:=gf cRanked default l
theorem fRanked_at (l:List DRanked) (i j:Nat):fRanked l i j=gl .junk (cRanked (l.getD i default)) j:=rfl
abbrev aRanked (u:Bool) (l:List DRanked):AV:=.sl u none 4 l.length (fRanked l)
theorem cl_Ranked (nl:Option Bool) (es n:Nat) (l:List DRanked):(AV.sl true nl es n (fRanked l)).cl=True:=by
 simp only[eq_iff_iff,iff_true]
 refine cl_gf (fun a c hc=>?_)
 simp only[cRanked,List.mem_cons,List.not_mem_nil,or_false] at hc
 rcases hc with rfl|rfl|rfl|rfl<;>first|trivial|exact of_eq_true (cl_I _ _ _ _)
def okRanked (B:Nat) (x:DRanked):Prop:=okFork B x.fork∧okFrac B x.merit
def okRankedS (B:Nat) (l:List DRanked):Prop:=l.length≤B∧∀x∈l,okRanked B x
structure DRule where
 sure:Int
 tie:Int
 grace:Int
 depth:Int
 nodes:Int
 units:Int
 two:Bool
 deriving DecidableEq,Inhabited
def cRule (x:DRule):List AV:=[.int .i64 x.sure,.int .i64 x.tie,.int .i64 x.grace,.int .i64 x.depth,.int .i64 x.nodes,.int .i64 x.units,.bool x.two]
def fRule (l:List DRule):Nat→Nat→AV:=gf cRule default l
theorem fRule_at (l:List DRule) (i j:Nat):fRule l i j=gl .junk (cRule (l.getD i default)) j:=rfl
abbrev aRule (u:Bool) (l:List DRule):AV:=.sl u none 7 l.length (fRule l)
theorem cl_Rule (nl:Option Bool) (es n:Nat) (l:List DRule):(AV.sl true nl es n (fRule l)).cl=True:=by
 simp only[eq_iff_iff,iff_true]
 refine cl_gf (fun a c hc=>?_)
 simp only[cRule,List.mem_cons,List.not_mem_nil,or_false] at hc
 rcases hc with rfl|rfl|rfl|rfl|rfl|rfl|rfl<;>first|trivial|exact of_eq_true (cl_I _ _ _ _)
def okRule (_:Nat) (x:DRule):Prop:=inK .i64 x.sure∧inK .i64 x.tie∧inK .i64 x.grace∧inK .i64 x.depth∧inK .i64 x.nodes∧inK .i64 x.units∧True
structure DTape where
 bytes:List (UInt8)
 at_:Int
 deriving DecidableEq,Inhabited
def cTape (u _:Bool) (x:DTape):List AV:=[aB u x.bytes,.int .i64 x.at_]
def fTape (v:Bool) (l:List DTape):Nat→Nat→AV:=gf (cTape v v) default l
theorem fTape_at (v:Bool) (l:List DTape) (i j:Nat):fTape v l i j=gl .junk (cTape v v (l.getD i default)) j:=rfl
abbrev aTape (u v:Bool) (l:List DTape):AV:=.sl u none 2 l.length (fTape v l)
theorem cl_Tape (nl:Option Bool) (es n:Nat) (l:List DTape):(AV.sl true nl es n (fTape true l)).cl=True:=by
 simp only[eq_iff_iff,iff_true]
 refine cl_gf (fun a c hc=>?_)
 simp only[cTape,List.mem_cons,List.not_mem_nil,or_false] at hc
 rcases hc with rfl|rfl<;>first|trivial|exact of_eq_true (cl_B _ _ _ _)
def okTape (B:Nat) (x:DTape):Prop:=x.bytes.length≤B∧inK .i64 x.at_
structure DDet where
 warn:List (List Int)
 drift:List (List Int)
 deriving DecidableEq,Inhabited
def cDet (u v:Bool) (x:DDet):List AV:=[aL u v x.warn,aL u v x.drift]
def fDet (v:Bool) (l:List DDet):Nat→Nat→AV:=gf (cDet v v) default l
theorem fDet_at (v:Bool) (l:List DDet) (i j:Nat):fDet v l i j=gl .junk (cDet v v (l.getD i default)) j:=rfl
abbrev aDet (u v:Bool) (l:List DDet):AV:=.sl u none 2 l.length (fDet v l)
theorem cl_Det (nl:Option Bool) (es n:Nat) (l:List DDet):(AV.sl true nl es n (fDet true l)).cl=True:=by
 simp only[eq_iff_iff,iff_true]
 refine cl_gf (fun a c hc=>?_)
 simp only[cDet,List.mem_cons,List.not_mem_nil,or_false] at hc
 rcases hc with rfl|rfl<;>first|trivial|exact of_eq_true (cl_L _ _ _ _)
def okDet (B:Nat) (x:DDet):Prop:=okL B x.warn∧okL B x.drift
def zDet (x:DDet):Nat:=szW x.warn+szW x.drift
structure DNode where
 leaf:Bool
 fork:DFork
 kids:List (Int)
 miss:Int
 stats:DStats
 since:Int
 attrs:List (Int)
 depth:Int
 up:Int
 born:Int
 deriving DecidableEq,Inhabited
def cNode (u v:Bool) (x:DNode):List AV:=[.bool x.leaf,.int .i64 x.fork.attr,.int .i64 x.fork.at_,aI u x.kids,.int .i64 x.miss,aI u x.stats.totals,aL u v x.stats.cells,.int .i64 x.since,aI u x.attrs,.int .i64 x.depth,.int .i64 x.up,.int .i64 x.born]
def fNode (v:Bool) (l:List DNode):Nat→Nat→AV:=gf (cNode v v) default l
theorem fNode_at (v:Bool) (l:List DNode) (i j:Nat):fNode v l i j=gl .junk (cNode v v (l.getD i default)) j:=rfl
abbrev aNode (u v:Bool) (l:List DNode):AV:=.sl u none 12 l.length (fNode v l)
theorem cl_Node (nl:Option Bool) (es n:Nat) (l:List DNode):(AV.sl true nl es n (fNode true l)).cl=True:=by
 simp only[eq_iff_iff,iff_true]
 refine cl_gf (fun a c hc=>?_)
 simp only[cNode,List.mem_cons,List.not_mem_nil,or_false] at hc
 rcases hc with rfl|rfl|rfl|rfl|rfl|rfl|rfl|rfl|rfl|rfl|rfl|rfl<;>first|trivial|exact of_eq_true (cl_I _ _ _ _)|exact of_eq_true (cl_L _ _ _ _)
def okNode (B:Nat) (x:DNode):Prop:=True∧okFork B x.fork∧okI B x.kids∧inK .i64 x.miss∧okStats B x.stats∧inK .i64 x.since∧okI B x.attrs∧inK .i64 x.depth∧inK .i64 x.up∧inK .i64 x.born
def okNodeS (B:Nat) (l:List DNode):Prop:=l.length≤B∧∀x∈l,okNode B x
def zNode (x:DNode):Nat:=x.kids.length+zStats x.stats+x.attrs.length
def zNodeS (l:List DNode):Nat:=l.length+sm zNode l
structure DTree where
 nodes:List (DNode)
 seen:Int
 deriving DecidableEq,Inhabited
def cTree (u v:Bool) (x:DTree):List AV:=[aNode u v x.nodes,.int .i64 x.seen]
def fTree (v:Bool) (l:List DTree):Nat→Nat→AV:=gf (cTree v v) default l
theorem fTree_at (v:Bool) (l:List DTree) (i j:Nat):fTree v l i j=gl .junk (cTree v v (l.getD i default)) j:=rfl
abbrev aTree (u v:Bool) (l:List DTree):AV:=.sl u none 2 l.length (fTree v l)
theorem cl_Tree (nl:Option Bool) (es n:Nat) (l:List DTree):(AV.sl true nl es n (fTree true l)).cl=True:=by
 simp only[eq_iff_iff,iff_true]
 refine cl_gf (fun a c hc=>?_)
 simp only[cTree,List.mem_cons,List.not_mem_nil,or_false] at hc
 rcases hc with rfl|rfl<;>first|trivial|exact of_eq_true (cl_Node _ _ _ _)
def okTree (B:Nat) (x:DTree):Prop:=okNodeS B x.nodes∧inK .i64 x.seen
def zTree (x:DTree):Nat:=zNodeS x.nodes
structure DConf where
 schema:DSchema
 rule:DRule
 members:Int
 pick:Int
 lambda:Int
 warn:Int
 drift:Int
 deriving DecidableEq,Inhabited
def cConf (u v:Bool) (x:DConf):List AV:=[aAttr u v x.schema.attrs,aS u x.schema.classes,.int .i64 x.rule.sure,.int .i64 x.rule.tie,.int .i64 x.rule.grace,.int .i64 x.rule.depth,.int .i64 x.rule.nodes,.int .i64 x.rule.units,.bool x.rule.two,.int .i64 x.members,.int .i64 x.pick,.int .i64 x.lambda,.int .i64 x.warn,.int .i64 x.drift]
def fConf (v:Bool) (l:List DConf):Nat→Nat→AV:=gf (cConf v v) default l
theorem fConf_at (v:Bool) (l:List DConf) (i j:Nat):fConf v l i j=gl .junk (cConf v v (l.getD i default)) j:=rfl
abbrev aConf (u v:Bool) (l:List DConf):AV:=.sl u none 14 l.length (fConf v l)
theorem cl_Conf (nl:Option Bool) (es n:Nat) (l:List DConf):(AV.sl true nl es n (fConf true l)).cl=True:=by
 simp only[eq_iff_iff,iff_true]
 refine cl_gf (fun a c hc=>?_)
 simp only[cConf,List.mem_cons,List.not_mem_nil,or_false] at hc
 rcases hc with rfl|rfl|rfl|rfl|rfl|rfl|rfl|rfl|rfl|rfl|rfl|rfl|rfl|rfl<;>first|trivial|exact of_eq_true (cl_Attr _ _ _ _)|exact of_eq_true (cl_S _ _ _ _)
def okConf (B:Nat) (x:DConf):Prop:=okSchema B x.schema∧okRule B x.rule∧inK .i64 x.members∧inK .i64 x.pick∧inK .i64 x.lambda∧inK .i64 x.warn∧inK .i64 x.drift
structure DMember where
 tree:DTree
 hasYoung:Bool
 young:DTree
 det:DDet
 deriving DecidableEq,Inhabited
def cMember (u v:Bool) (x:DMember):List AV:=[aNode u v x.tree.nodes,.int .i64 x.tree.seen,.bool x.hasYoung,aNode u v x.young.nodes,.int .i64 x.young.seen,aL u v x.det.warn,aL u v x.det.drift]
def fMember (v:Bool) (l:List DMember):Nat→Nat→AV:=gf (cMember v v) default l
theorem fMember_at (v:Bool) (l:List DMember) (i j:Nat):fMember v l i j=gl .junk (cMember v v (l.getD i default)) j:=rfl
abbrev aMember (u v:Bool) (l:List DMember):AV:=.sl u none 7 l.length (fMember v l)
theorem cl_Member (nl:Option Bool) (es n:Nat) (l:List DMember):(AV.sl true nl es n (fMember true l)).cl=True:=by
 simp only[eq_iff_iff,iff_true]
 refine cl_gf (fun a c hc=>?_)
 simp only[cMember,List.mem_cons,List.not_mem_nil,or_false] at hc
 rcases hc with rfl|rfl|rfl|rfl|rfl|rfl|rfl<;>first|trivial|exact of_eq_true (cl_L _ _ _ _)|exact of_eq_true (cl_Node _ _ _ _)
def okMember (B:Nat) (x:DMember):Prop:=okTree B x.tree∧True∧okTree B x.young∧okDet B x.det
def okMemberS (B:Nat) (l:List DMember):Prop:=l.length≤B∧∀x∈l,okMember B x
def zMember (x:DMember):Nat:=zTree x.tree+zTree x.young+zDet x.det
def zMemberS (l:List DMember):Nat:=l.length+sm zMember l
structure DForest where
 members:List (DMember)
 deriving DecidableEq,Inhabited
def cForest (u v:Bool) (x:DForest):List AV:=[aMember u v x.members]
def fForest (v:Bool) (l:List DForest):Nat→Nat→AV:=gf (cForest v v) default l
theorem fForest_at (v:Bool) (l:List DForest) (i j:Nat):fForest v l i j=gl .junk (cForest v v (l.getD i default)) j:=rfl
abbrev aForest (u v:Bool) (l:List DForest):AV:=.sl u none 1 l.length (fForest v l)
theorem cl_Forest (nl:Option Bool) (es n:Nat) (l:List DForest):(AV.sl true nl es n (fForest true l)).cl=True:=by
 simp only[eq_iff_iff,iff_true]
 refine cl_gf (fun a c hc=>?_)
 simp only[cForest,List.mem_cons,List.not_mem_nil,or_false] at hc
 rcases hc with rfl<;>first|trivial|exact of_eq_true (cl_Member _ _ _ _)
def okForest (B:Nat) (x:DForest):Prop:=okMemberS B x.members
def zForest (x:DForest):Nat:=zMemberS x.members
structure DPair where
 truth:Int
 said:Int
 deriving DecidableEq,Inhabited
def cPair (x:DPair):List AV:=[.int .i64 x.truth,.int .i64 x.said]
def fPair (l:List DPair):Nat→Nat→AV:=gf cPair default l
theorem fPair_at (l:List DPair) (i j:Nat):fPair l i j=gl .junk (cPair (l.getD i default)) j:=rfl
abbrev aPair (u:Bool) (l:List DPair):AV:=.sl u none 2 l.length (fPair l)
theorem cl_Pair (nl:Option Bool) (es n:Nat) (l:List DPair):(AV.sl true nl es n (fPair l)).cl=True:=by
 simp only[eq_iff_iff,iff_true]
 refine cl_gf (fun a c hc=>?_)
 simp only[cPair,List.mem_cons,List.not_mem_nil,or_false] at hc
 rcases hc with rfl|rfl<;>first|trivial|exact of_eq_true (cl_I _ _ _ _)
structure DScore where
 table:List (List (Int))
 last:List (DPair)
 deriving DecidableEq,Inhabited
def cScore (u v:Bool) (x:DScore):List AV:=[aL u v x.table,aPair u x.last]
def fScore (v:Bool) (l:List DScore):Nat→Nat→AV:=gf (cScore v v) default l
theorem fScore_at (v:Bool) (l:List DScore) (i j:Nat):fScore v l i j=gl .junk (cScore v v (l.getD i default)) j:=rfl
abbrev aScore (u v:Bool) (l:List DScore):AV:=.sl u none 2 l.length (fScore v l)
theorem cl_Score (nl:Option Bool) (es n:Nat) (l:List DScore):(AV.sl true nl es n (fScore true l)).cl=True:=by
 simp only[eq_iff_iff,iff_true]
 refine cl_gf (fun a c hc=>?_)
 simp only[cScore,List.mem_cons,List.not_mem_nil,or_false] at hc
 rcases hc with rfl|rfl<;>first|trivial|exact of_eq_true (cl_L _ _ _ _)|exact of_eq_true (cl_Pair _ _ _ _)
structure DState where
 conf:DConf
 forest:DForest
 score:DScore
 deriving DecidableEq,Inhabited
def cState (u v:Bool) (x:DState):List AV:=[aAttr u v x.conf.schema.attrs,aS u x.conf.schema.classes,.int .i64 x.conf.rule.sure,.int .i64 x.conf.rule.tie,.int .i64 x.conf.rule.grace,.int .i64 x.conf.rule.depth,.int .i64 x.conf.rule.nodes,.int .i64 x.conf.rule.units,.bool x.conf.rule.two,.int .i64 x.conf.members,.int .i64 x.conf.pick,.int .i64 x.conf.lambda,.int .i64 x.conf.warn,.int .i64 x.conf.drift,aMember u v x.forest.members,aL u v x.score.table,aPair u x.score.last]
def fState (v:Bool) (l:List DState):Nat→Nat→AV:=gf (cState v v) default l
theorem fState_at (v:Bool) (l:List DState) (i j:Nat):fState v l i j=gl .junk (cState v v (l.getD i default)) j:=rfl
abbrev aState (u v:Bool) (l:List DState):AV:=.sl u none 17 l.length (fState v l)
theorem cl_State (nl:Option Bool) (es n:Nat) (l:List DState):(AV.sl true nl es n (fState true l)).cl=True:=by
 simp only[eq_iff_iff,iff_true]
 refine cl_gf (fun a c hc=>?_)
 simp only[cState,List.mem_cons,List.not_mem_nil,or_false] at hc
 rcases hc with rfl|rfl|rfl|rfl|rfl|rfl|rfl|rfl|rfl|rfl|rfl|rfl|rfl|rfl|rfl|rfl|rfl<;>first|trivial|exact of_eq_true (cl_Attr _ _ _ _)|exact of_eq_true (cl_L _ _ _ _)|exact of_eq_true (cl_Member _ _ _ _)|exact of_eq_true (cl_Pair _ _ _ _)|exact of_eq_true (cl_S _ _ _ _)
end Go.AM
/- Sums,rows that grow,and what else the contracts need. -/
namespace Go.AM
open Go
theorem foldl_take {α β:Type} {f:β→α→β} {d:α} {a:β} {l:List α} {i:Nat} (h:i<l.length):(l.take (i+1)).foldl f a=f ((l.take i).foldl f a) (l.getD i d):=by
 rw[List.take_add_one,List.foldl_append]
 simp[List.getD,h]
theorem take_succ {α:Type} {d:α} {l:List α} {i:Nat} (h:i<l.length):l.take (i+1)=l.take i++[l.getD i d]:=by
 rw[List.take_add_one]
 simp[List.getD,h]
theorem sm_app {α:Type} {f:α→Nat}:∀{l m:List α},sm f (l++m)=sm f l+sm f m
 |[],m=>by simp[sm]
 |r::l,m=>by have:=sm_app (f:=f) (l:=l) (m:=m);simp only[List.cons_append,sm,this];omega
theorem sm_mono {α:Type} {f g:α→Nat} (h:∀x,f x≤g x):∀{l:List α},sm f l≤sm g l
 |[]=>Nat.le_refl _
 |r::l=>by have:=sm_mono h (l:=l);have:=h r;simp only[sm];omega
def smI {α:Type} (f:α→Int):List α→Int
 |[]=>0
 |r::l=>f r+smI f l
theorem smI_app {α:Type} {f:α→Int}:∀{l m:List α},smI f (l++m)=smI f l+smI f m
 |[],m=>by simp[smI]
 |r::l,m=>by have:=smI_app (f:=f) (l:=l) (m:=m);simp only[List.cons_append,smI,this];omega
theorem smI_take {α:Type} {f:α→Int} {d:α} {l:List α} {i:Nat} (h:i<l.length):smI f (l.take (i+1))=smI f (l.take i)+f (l.getD i d):=by
 rw[take_succ (d:=d) h,smI_app];simp[smI]
theorem smI_bd {α:Type} {f:α→Int} {c:Int}:∀{l:List α},(∀x∈l,0≤f x∧f x≤c)→0≤smI f l∧smI f l≤c*l.length
 |[],h=>by simp[smI]
 |r::l,h=>by
  have:=smI_bd (f:=f) (c:=c) (l:=l) (fun x hx=>h x (List.mem_cons_of_mem _ hx))
  have:=h r (List.mem_cons_self ..)
  simp only[smI,List.length_cons,Int.natCast_add,Int.natCast_one,Int.mul_add,Int.mul_one];omega
theorem getD_app {α:Type} {d:α} {l m:List α} {i:Nat}:(l++m).getD i d=if i<l.length then l.getD i d else m.getD (i - l.length) d:=by
 by_cases h:i<l.length
 ·rw[if_pos h];simp[List.getD,List.getElem?_append_left h]
 ·rw[if_neg h];simp[List.getD,List.getElem?_append_right (Nat.le_of_not_lt h)]
theorem appLe1 {α:Type} {cs:α→List AV} {d:α} {l m:List α} {x:α} {ys:List AV} {nl nl':Option Bool} {es:Nat} (hm:m=l++[x]) (hy:ys=cs x) (hl:nl'=none∨nl'=nl):
 ALe (.sl true nl es (l.length+1) (apF l.length (gf cs d l) (rowsF [ys]))) (.sl true nl' es m.length (gf cs d m)):=by
 subst hm hy
 refine ALe.of hl (by simp) (fun i hi j hj=>?_)
 unfold apF gf
 by_cases h:i<l.length
 ·rw[if_pos h,getD_app,if_pos h];exact .refl _
 ·have e:i=l.length:=by omega
  subst e
  rw[if_neg h,getD_app,if_neg h]
  simp[rowsF,gl]
  exact .refl _
theorem pl {a b:Prop} (h:a∧b):a:=h.1
theorem pr {a b:Prop} (h:b∧a):a:=h.2
theorem plr {a b c:Prop} (h:b∧a∧c):a:=h.2.1
theorem pll {a b c:Prop} (h:(a∧b)∧c):a:=h.1.1
theorem prl {a b c:Prop} (h:(b∧a)∧c):a:=h.1.2
theorem plll {a b c d:Prop} (h:((a∧b)∧c)∧d):a:=h.1.1.1
theorem prll {a b c d:Prop} (h:((b∧a)∧c)∧d):a:=h.1.1.2
theorem rows_at0 (ys:List AV) (j:Nat):rowsF [ys] 0 j=gl .junk ys j:=rfl
theorem eqId {α:Sort _} {a b:α} (h:a=b):a=b:=h
theorem inK_bd {n:Int} (h: -9223372036854775808≤n∧n≤9223372036854775807):inK .i64 n:=h
theorem fr_int (k:IntKind) (n:Int):(AV.int k n).free=True:=rfl
theorem fr_bool (b:Bool):(AV.bool b).free=True:=rfl
theorem fr_str (s:List UInt8):(AV.str s).free=True:=rfl
theorem fr_slf (nl:Option Bool) (es n:Nat) (f:Nat→Nat→AV):(AV.sl false nl es n f).free=True:=rfl
theorem fr_ptr (m:Nat) (f:Nat→AV):(AV.ptr m f).free=True:=rfl
theorem fr_fn (g:Fn) (m:Nat) (f:Nat→AV):(AV.fn g m f).free=True:=rfl
theorem oTA_none {α:Type}:(none:Option α).toArray=#[]:=rfl
theorem oTA_some {α:Type} (x:α):(some x).toArray=#[x]:=rfl
theorem tmod_nat (a b:Nat):(a:Int).tmod (b:Int)=((a % b:Nat):Int):=(Int.ofNat_tmod a b).symm
theorem tdiv_nat (a b:Nat):(a:Int).tdiv (b:Int)=((a / b:Nat):Int):=(Int.ofNat_tdiv a b).symm
theorem kn_int (k:IntKind) (n:Int):(AV.int k n).kn=true:=rfl
theorem kn_bool (b:Bool):(AV.bool b).kn=true:=rfl
theorem kn_str (s:List UInt8):(AV.str s).kn=true:=rfl
theorem kn_sl (u:Bool) (nl:Option Bool) (es n:Nat) (f:Nat→Nat→AV):(AV.sl u nl es n f).kn=true:=rfl
theorem kn_ptr (m:Nat) (f:Nat→AV):(AV.ptr m f).kn=true:=rfl
theorem kn_fn (g:Fn) (m:Nat) (f:Nat→AV):(AV.fn g m f).kn=true:=rfl
theorem kn_junk:AV.junk.kn=false:=rfl
def freeN:Nat→List AV→Prop
 |0,_=>True
 |n+1,a::r=>a.free∧freeN n r
 |_+1,[]=>False
theorem freeN_iff:∀{n:Nat} {l:List AV},freeN n l↔∀j,j<n→(gl .junk l j).free
 |0,l=>by simp[freeN]
 |n+1,[]=>by
  simp only[freeN,false_iff]
  intro h
  exact h 0 (by omega)
 |n+1,a::r=>by
  simp only[freeN,freeN_iff]
  constructor
  ·rintro⟨h1,h2⟩ j hj
   cases j with
   |zero=>exact h1
   |succ j=>exact h2 j (by omega)
  ·intro h
   exact⟨h 0 (by omega),fun j hj=>h (j+1) (by omega)⟩
theorem fr_rows1 {ys:List AV} {es:Nat}:(∀i,i<1→∀j,j<es→(rowsF [ys] i j).free)=freeN es ys:=by
 simp only[eq_iff_iff,freeN_iff]
 constructor
 ·intro h j hj;exact h 0 (by omega) j hj
 ·intro h i hi j hj
  obtain rfl:i=0:=by omega
  exact h j hj
theorem kn_I {l:List Int} {n:Nat}:(∀i,i<n→∀j,j<1→(fI l i j).kn=true)=True:=by
 simp only[eq_iff_iff,iff_true]
 intro i _ j hj
 obtain rfl:j=0:=by omega
 rfl
theorem kn_B {l:List UInt8} {n:Nat}:(∀i,i<n→∀j,j<1→(fB l i j).kn=true)=True:=by
 simp only[eq_iff_iff,iff_true]
 intro i _ j hj
 obtain rfl:j=0:=by omega
 rfl
theorem kn_S {l:List (List UInt8)} {n:Nat}:(∀i,i<n→∀j,j<1→(fS l i j).kn=true)=True:=by
 simp only[eq_iff_iff,iff_true]
 intro i _ j hj
 obtain rfl:j=0:=by omega
 rfl
theorem pow_bd (i:Nat) (h:i≤62):1≤(2:Int)^i∧(2:Int)^i≤4611686018427387904:=by
 have h1:(2:Nat)^i≤2^62:=Nat.pow_le_pow_right (by omega) h
 have h2:0<(2:Nat)^i:=Nat.pow_pos (by omega)
 have e:(2:Int)^i=((2^i:Nat):Int):=by simp
 rw[e]
 omega
def rok (r:Nat) (l:List Int):Prop:=(1≤l.length∧l.length≤3)∧∀i,i<l.length→0≤l.getD i 0∧l.getD i 0≤2^r
def wok (l:List (List Int)):Prop:=l.length≤8∧∀r,r<l.length→rok r (l.getD r [])
instance (r:Nat) (l:List Int):Decidable (rok r l):=by unfold rok;infer_instance
instance (l:List (List Int)):Decidable (wok l):=by unfold wok;infer_instance
def wokB (l:List (List Int)):Bool:=decide (wok l)
theorem wokB_true {l:List (List Int)} (h:wok l):wokB l=true:=by simp[wokB,h]
theorem wokB_false {l:List (List Int)} (h:¬wok l):wokB l=false:=by simp[wokB,h]
def fidx (p:Int→Bool):List Int→Int→Int
 |[],_=> -1
 |x::l,i=>if p x=true then i else fidx p l (i+1)
theorem fidx_any (p:Int→Bool):∀(l:List Int) (i:Int),0≤i→decide (0≤fidx p l i)=l.any p
 |[],i,h=>by simp[fidx]
 |x::l,i,h=>by
  have ih:=fidx_any p l (i+1) (by omega)
  by_cases hx:p x=true
  ·simp[fidx,hx,h]
  ·have hx':p x=false:=by simpa using hx
   simp only[fidx,List.any_cons,hx',Bool.false_or]
   exact ih
theorem drop_cons {α:Type} {d:α} {l:List α} {i:Nat} (h:i<l.length):l.drop i=l.getD i d::l.drop (i+1):=by
 rw[List.drop_eq_getElem_cons h]
 simp[List.getD,h]
theorem rok_iff (i:Nat) (l:List Int):rok i l↔(1≤l.length∧l.length≤3)∧(l.any fun x=> !decide (0≤x∧x≤2^i))=false:=by
 constructor
 ·rintro⟨h1,h2⟩
  refine⟨h1,?_⟩
  rw[List.any_eq_false]
  intro x hx
  obtain⟨k,hk,rfl⟩:=List.getElem_of_mem hx
  have:=h2 k hk
  have e:l.getD k 0=l[k]:=by simp[List.getD,hk]
  rw[e] at this
  simp[this]
 ·rintro⟨h1,h2⟩
  refine⟨h1,fun k hk=>?_⟩
  rw[List.any_eq_false] at h2
  have:=h2 _ (getD_mem (d:=0) hk)
  simpa using this
structure DBucket where
 size:Int
 ones:Int
 deriving DecidableEq,Inhabited
def cBucket (x:DBucket):List AV:=[.int .i64 x.size,.int .i64 x.ones]
def fBucket (l:List DBucket):Nat→Nat→AV:=gf cBucket default l
theorem fBucket_at (l:List DBucket) (i j:Nat):fBucket l i j=gl .junk (cBucket (l.getD i default)) j:=rfl
abbrev aBucket (u:Bool) (l:List DBucket):AV:=.sl u none 2 l.length (fBucket l)
theorem cl_Bucket (nl:Option Bool) (es n:Nat) (l:List DBucket):(AV.sl true nl es n (fBucket l)).cl=True:=by
 simp only[eq_iff_iff,iff_true]
 refine cl_gf (fun a c hc=>?_)
 simp only[cBucket,List.mem_cons,List.not_mem_nil,or_false] at hc
 rcases hc with rfl|rfl<;>trivial
def bkR (r:Nat) (row:List Int):List DBucket:=row.map fun x=>⟨2^r,x⟩
def bkUp (l:List (List Int)):Nat→List DBucket
 |0=>[]
 |k+1=>bkUp l k++bkR (l.length - 1 - k) (l.getD (l.length - 1 - k) [])
def bkts (l:List (List Int)):List DBucket:=if wok l then bkUp l l.length else []
theorem bkR_take {r:Nat} {row:List Int} {j:Nat} (h:j<row.length):bkR r (row.take (j+1))=bkR r (row.take j)++[⟨2^r,row.getD j 0⟩]:=by
 unfold bkR;rw[take_succ (d:=0) h];simp
theorem bkR_len {r:Nat} {row:List Int}:(bkR r row).length=row.length:=by simp[bkR]
theorem bkUp_step {l:List (List Int)} {p:Nat} (h:p+1≤l.length):bkUp l (l.length - p)=bkUp l (l.length - (p+1))++bkR p (l.getD p []):=by
 have e:l.length - p=(l.length - (p+1))+1:=by omega
 rw[e,bkUp]
 have e2:l.length - 1 - (l.length - (p+1))=p:=by omega
 rw[e2]
theorem bkUp_len {l:List (List Int)} (h:wok l):∀{k:Nat},k≤l.length→(bkUp l k).length≤3*k
 |0,_=>by simp[bkUp]
 |k+1,hk=>by
  have:=bkUp_len h (k:=k) (by omega)
  have h2:=(h.2 (l.length - 1 - k) (by omega)).1.2
  simp only[bkUp,List.length_append,bkR_len];omega
def bSize:List DBucket→Int:=smI DBucket.size
def bOnes:List DBucket→Int:=smI DBucket.ones
theorem bkR_ok {r:Nat} {row:List Int} (hr:r≤7) (h:rok r row):∀b∈bkR r row,(0≤b.size∧b.size≤128)∧0≤b.ones∧b.ones≤b.size:=by
 intro b hb
 unfold bkR at hb
 obtain⟨x,hx,rfl⟩:=List.mem_map.1 hb
 obtain⟨j,hj,rfl⟩:=List.getElem_of_mem hx
 have h2:=h.2 j hj
 have e:row.getD j 0=row[j]:=by simp[List.getD,hj]
 rw[e] at h2
 have h3:(2:Nat)^r≤2^7:=Nat.pow_le_pow_right (by omega) hr
 have h4:0<(2:Nat)^r:=Nat.pow_pos (by omega)
 have e:(2:Int)^r=((2^r:Nat):Int):=by simp
 rw[e] at h2 ⊢
 dsimp only
 omega
theorem bkUp_ok {l:List (List Int)} (h:wok l):∀{k:Nat},k≤l.length→∀b∈bkUp l k,(0≤b.size∧b.size≤128)∧0≤b.ones∧b.ones≤b.size
 |0,_,b,hb=>by simp[bkUp] at hb
 |k+1,hk,b,hb=>by
  simp only[bkUp,List.mem_append] at hb
  rcases hb with hb|hb
  ·exact bkUp_ok h (by omega) b hb
  ·exact bkR_ok (by have:=h.1;omega) (h.2 _ (by omega)) b hb
theorem bkts_len {l:List (List Int)}:(bkts l).length≤24:=by
 unfold bkts
 split
 ·rename_i h
  have:=bkUp_len h (Nat.le_refl _)
  have:=h.1
  omega
 ·simp
theorem bkts_ok {l:List (List Int)}:∀b∈bkts l,(0≤b.size∧b.size≤128)∧0≤b.ones∧b.ones≤b.size:=by
 intro b hb
 unfold bkts at hb
 split at hb
 ·rename_i h;exact bkUp_ok h (Nat.le_refl _) b hb
 ·simp at hb
theorem bk_bd {m:List DBucket} (h:∀b∈m,(0≤b.size∧b.size≤128)∧0≤b.ones∧b.ones≤b.size):0≤bOnes m∧bOnes m≤bSize m∧bSize m≤128*m.length:=by
 induction m with
 |nil=>simp[bOnes,bSize,smI]
 |cons b m ih=>
  have h1:=ih (fun x hx=>h x (List.mem_cons_of_mem _ hx))
  have h2:=h b (List.mem_cons_self ..)
  unfold bOnes bSize at *
  simp only[smI,List.length_cons,Int.natCast_add,Int.natCast_one]
  omega
theorem bk_take {m:List DBucket} {i:Nat} (h:∀b∈m,(0≤b.size∧b.size≤128)∧0≤b.ones∧b.ones≤b.size):0≤bOnes (m.take i)∧bOnes (m.take i)≤bSize (m.take i)∧bSize (m.take i)≤128*m.length∧bSize (m.take i)≤bSize m∧bOnes (m.take i)≤bOnes m∧bOnes m - bOnes (m.take i)≤bSize m - bSize (m.take i):=by
 have e:m=m.take i++m.drop i:=(List.take_append_drop i m).symm
 have h1:=bk_bd (m:=m.take i) (fun b hb=>h b (List.mem_of_mem_take hb))
 have h2:=bk_bd (m:=m.drop i) (fun b hb=>h b (List.mem_of_mem_drop hb))
 have e1:bSize m=bSize (m.take i)+bSize (m.drop i):=by
  conv=>lhs;rw[e]
  exact smI_app
 have e2:bOnes m=bOnes (m.take i)+bOnes (m.drop i):=by
  conv=>lhs;rw[e]
  exact smI_app
 have h3:=bk_bd h
 omega
def lnOf (k:Int):Int:=if 1≤k∧k≤9 then (k*2302585+999).tdiv 1000 else 0
theorem lnOf_bd (k:Int):0≤lnOf k∧lnOf k≤20723266:=by
 unfold lnOf
 split
 ·rename_i h
  rw[Int.tdiv_eq_ediv_of_nonneg (by omega)]
  omega
 ·omega
def cutHere (n u m v k:Int):Bool:=
 decide ((5≤n∧n≤1000)∧(5≤m∧m≤1000)∧(0≤u∧u≤n)∧(0≤v∧v≤m)∧(1≤k∧k≤9)∧lnOf k*(n+m)*n*m<(u*m - v*n)*(u*m - v*n)*2000)
theorem mul_bd {a b A B:Int} (ha:0≤a∧a≤A) (hb:0≤b∧b≤B):0≤a*b∧a*b≤A*B:=
 ⟨Int.mul_nonneg ha.1 hb.1,Int.mul_le_mul ha.2 hb.2 hb.1 (Int.le_trans ha.1 ha.2)⟩
theorem sq_bd {a A:Int} (ha: -A≤a∧a≤A):0≤a*a∧a*a≤A*A:=by
 by_cases h:0≤a
 ·exact mul_bd ⟨h,ha.2⟩ ⟨h,ha.2⟩
 ·have:=mul_bd (a:= -a) (b:= -a) (A:=A) (B:=A) ⟨by omega,by omega⟩ ⟨by omega,by omega⟩
  rw[Int.neg_mul_neg] at this
  exact this
theorem cut_bd (n u m v k:Int):¬((5≤n∧n≤1000)∧(5≤m∧m≤1000)∧(0≤u∧u≤n)∧(0≤v∧v≤m)∧(1≤k∧k≤9))∨
 ((0≤u*m∧u*m≤1000000)∧(0≤v*n∧v*n≤1000000)∧(0≤(u*m - v*n)*(u*m - v*n)∧(u*m - v*n)*(u*m - v*n)≤1000000000000)∧
  (0≤lnOf k*(n+m)∧lnOf k*(n+m)≤41446532000)∧(0≤lnOf k*(n+m)*n∧lnOf k*(n+m)*n≤41446532000000)∧(0≤lnOf k*(n+m)*n*m∧lnOf k*(n+m)*n*m≤41446532000000000)):=by
 by_cases h:(5≤n∧n≤1000)∧(5≤m∧m≤1000)∧(0≤u∧u≤n)∧(0≤v∧v≤m)∧(1≤k∧k≤9)
 ·refine .inr ?_
  obtain⟨h1,h2,h3,h4,h5⟩:=h
  have a1:=mul_bd (a:=u) (b:=m) (A:=1000) (B:=1000) (by omega) (by omega)
  have a2:=mul_bd (a:=v) (b:=n) (A:=1000) (B:=1000) (by omega) (by omega)
  have a3:=sq_bd (a:=u*m - v*n) (A:=1000000) (by omega)
  have a4:=mul_bd (a:=lnOf k) (b:=n+m) (lnOf_bd k) (B:=2000) (by omega)
  have a5:=mul_bd (a:=lnOf k*(n+m)) (b:=n) a4 (B:=1000) (by omega)
  have a6:=mul_bd (a:=lnOf k*(n+m)*n) (b:=m) a5 (B:=1000) (by omega)
  omega
 ·exact .inl h
def cutFrom (bs:List DBucket) (k:Int) (i:Nat):Nat→Int
 |0=>0
 |f+1=>if i+1<bs.length then (if cutHere (bSize (bs.take (i+1))) (bOnes (bs.take (i+1))) (bSize bs - bSize (bs.take (i+1))) (bOnes bs - bOnes (bs.take (i+1))) k=true then (i:Int)+1 else cutFrom bs k (i+1) f) else 0
theorem cutFrom_step {bs:List DBucket} {k:Int} {i:Nat} (h:i+1<bs.length):cutFrom bs k i (bs.length - i)=if cutHere (bSize (bs.take (i+1))) (bOnes (bs.take (i+1))) (bSize bs - bSize (bs.take (i+1))) (bOnes bs - bOnes (bs.take (i+1))) k=true then (i:Int)+1 else cutFrom bs k (i+1) (bs.length - (i+1)):=by
 have e:bs.length - i=(bs.length - (i+1))+1:=by omega
 rw[e,cutFrom,if_pos h]
theorem cutFrom_end {bs:List DBucket} {k:Int} {i:Nat} (h:¬i+1<bs.length):cutFrom bs k i (bs.length - i)=0:=by
 generalize bs.length - i=f
 cases f with
 |zero=>rfl
 |succ f=>rw[cutFrom,if_neg h]
def cutAt (l:List (List Int)) (k:Int):Int:=cutFrom (bkts l) k 0 (bkts l).length
def ren0:SV→SV→Ren
 | .own k _ _,.own k' _ _=>[(k,k')]
 | .ref k _ _ _ _,.ref k' _ _ _ _=>[(k,k')]
 | .view k _ _ _ _,.view k' _ _ _ _=>[(k,k')]
 |_,_=>[]
def renL0:List SV→List SV→Ren
 |a::r,b::s=>ren0 a b++renL0 r s
 |_,_=>[]
def renS:SV→SV→Ren
 | .clo _ l,.clo _ m=>renL0 l m
 |a,b=>ren0 a b
def renL:List SV→List SV→Ren
 |a::r,b::s=>renS a b++renL r s
 |_,_=>[]
def renT:TV→TV→Ren
 | .one a,.one b=>renS a b
 | .agg l,.agg m=>renL l m
 |_,_=>[]
def renC (T:Nat→TV):List (Nat×TV)→Ren
 |[]=>[]
 |(s,t)::r=>renT (T s) t++renC T r
def hasR (k:Nat):Ren→Bool
 |[]=>false
 |(a,_)::r=>Nat.beq a k||hasR k r
def dedR:Ren→Ren→Ren
 |acc,[]=>acc
 |acc,(a,b)::r=>dedR (bif hasR a acc then acc else (a,b)::acc) r
theorem Le.auto {σ σ':St} {r0 ren:Ren} (nils:List Nat) (_:renC σ.T σ'.t=r0) (_:dedR [] r0=ren) (hn0:((Nat.blt 4 σ'.n||Nat.ble σ.n σ'.n)&&Nat.blt 0 σ'.n)=true) (hren:renOk nils σ'.n ren=true) (hnl:nilOk σ'.n nils=true) (hall:allIn ren nils σ'.h=true) (ho:OLeA σ.H σ'.H ren) (hn:nilsOk σ'.H nils) (ht:TLeA ren nils σ.T σ.H σ'.H σ'.t):Le σ σ':=
 Le.of ren nils hn0 hren hnl hall ho hn ht
def kpH (T:Nat→TV):List Nat→List Nat
 |[]=>[]
 |s::r=>(T s).ml++kpH T r
def hasN (k:Nat):List Nat→Bool
 |[]=>false
 |a::r=>Nat.beq a k||hasN k r
def dedN:List Nat→List Nat→List Nat
 |acc,[]=>acc
 |acc,a::r=>dedN (bif hasN a acc then acc else a::acc) r
def rst0:SV→SV
 | .own k p _=>.own k p (verTake [] (p.length+1))
 | .ref k p _ i o=>.ref k p (verTake [] (p.length+1)) i o
 | .view k p _ i o=>.view k p (verTake [] (p.length+1)) i o
 |s=>s
def rstL0:List SV→List SV
 |[]=>[]
 |s::r=>rst0 s::rstL0 r
def rstS:SV→SV
 | .clo g l=>.clo g (rstL0 l)
 |s=>rst0 s
def rstL:List SV→List SV
 |[]=>[]
 |s::r=>rstS s::rstL r
def rstT:TV→TV
 | .one s=>.one (rstS s)
 | .agg l=>.agg (rstL l)
 |t=>t
def pickT0 (T:Nat→TV):List Nat→List (Nat×TV)
 |[]=>[]
 |s::r=>(s,rstT (T s))::pickT0 T r
def pickH0 (H:Nat→OB):List Nat→List (Nat×OB)
 |[]=>[]
 |s::r=>(s,⟨(H s).a,[]⟩)::pickH0 H r
theorem LoopK.auto {body:Code} {k:List It→St→Prop} {K:List It} {σ:St} (X:Type) (ts:X→List (Nat×TV)) (hs:X→List (Nat×OB)) (keep:List Nat) {k0 keepH:List Nat} (n:Nat) (Inv:X→Prop) (μ:X→Nat) (x0:X)
 (_:kpH σ.T keep=k0) (_:dedN [] k0=keepH) (h0:Inv x0) (h1:Le σ ⟨ts x0++pickT0 σ.T keep,hs x0++pickH0 σ.H keepH,n⟩)
 (h2:∀x,Inv x→k (.code body::.lp (fun σ'=>∃x',Le σ' ⟨ts x'++pickT0 σ.T keep,hs x'++pickH0 σ.H keepH,n⟩∧Inv x'∧μ x'<μ x)::K) ⟨ts x++pickT0 σ.T keep,hs x++pickH0 σ.H keepH,n⟩):LoopK body k K σ:=
 ⟨X,fun x=>⟨ts x++pickT0 σ.T keep,hs x++pickH0 σ.H keepH,n⟩,Inv,μ,⟨x0,h0,h1⟩,h2⟩
end Go.AM
/- One closing step for small goals. -/
namespace Go.AM
theorem amA {P:Prop} (h:P:=by first|omega|with_reducible rfl|((with_reducible refine eqId ?_);exact rfl)|with_reducible (first|assumption|exact pl ‹_›|exact pr ‹_›|exact plr ‹_›|exact pll ‹_›|exact prl ‹_›|exact plll ‹_›|exact prll ‹_›)):P:=h
theorem amT {P:Prop} (h:P:=by with_reducible apply True.intro):P:=h
theorem zA {a b:Prop} (x:a) (y:b):a∧b:=⟨x,y⟩
end Go.AM
/- Schemas,statistics,forks and trees:what is right. -/
namespace Go.AM
open Go
def wordOk (s:List UInt8):Prop:=(1≤s.length∧s.length≤8)∧∀i,i<s.length→97≤(s.getD i 0).toNat∧(s.getD i 0).toNat≤122
instance (s:List UInt8):Decidable (wordOk s):=by unfold wordOk;infer_instance
def words (l:List (List UInt8)):Prop:=∀i,i<l.length→wordOk (l.getD i [])∧∀j,j<i→l.getD j []≠l.getD i []
instance (l:List (List UInt8)):Decidable (words l):=by unfold words;infer_instance
def asc (l:List Int):Prop:=∀i,i+1<l.length→l.getD i 0<l.getD (i+1) 0
instance (l:List Int):Decidable (asc l):=by
 have e:asc l↔∀i,i<l.length - 1→l.getD i 0<l.getD (i+1) 0:=⟨fun h i hi=>h i (by omega),fun h i hi=>h i (by omega)⟩
 exact decidable_of_iff _ e.symm
def cutsOk (l:List Int):Prop:=(1≤l.length∧l.length≤3)∧asc l∧∀i,i<l.length→ -9999≤l.getD i 0∧l.getD i 0≤9998
instance (l:List Int):Decidable (cutsOk l):=by unfold cutsOk;infer_instance
def attrOk (a:DAttr):Prop:=wordOk a.name∧if a.cuts.length=0 then (2≤a.values.length∧a.values.length≤4)∧words a.values else a.values.length=0∧cutsOk a.cuts
instance (a:DAttr):Decidable (attrOk a):=by unfold attrOk;infer_instance
def bins (a:DAttr):Nat:=if 0<a.cuts.length then a.cuts.length+1 else a.values.length
def schemaOk (s:DSchema):Prop:=(1≤s.attrs.length∧s.attrs.length≤5)∧(2≤s.classes.length∧s.classes.length≤3)∧words s.classes∧(∀i,i<s.attrs.length→attrOk (s.attrs.getD i default))∧∀i,i<s.attrs.length→∀j,j<i→(s.attrs.getD j default).name≠(s.attrs.getD i default).name
instance (s:DSchema):Decidable (schemaOk s):=by unfold schemaOk;infer_instance
theorem words_names {s:DSchema} (h:∀i,i<s.attrs.length→attrOk (s.attrs.getD i default)):words (s.attrs.map DAttr.name)↔∀i,i<s.attrs.length→∀j,j<i→(s.attrs.getD j default).name≠(s.attrs.getD i default).name:=by
 have e:∀i,i<s.attrs.length→(s.attrs.map DAttr.name).getD i []=(s.attrs.getD i default).name:=by
  intro i hi
  simp[List.getD,hi]
 unfold words
 constructor
 ·intro hw i hi j hj
  have:=(hw i (by simpa using hi)).2 j hj
  rw[e i hi,e j (by omega)] at this
  exact this
 ·intro hw i hi
  have hi':i<s.attrs.length:=by simpa using hi
  refine⟨?_,fun j hj=>?_⟩
  ·rw[e i hi'];exact(h i hi').1
  ·rw[e i hi',e j (by omega)];exact hw i hi' j hj
theorem attrOk_bins {a:DAttr} (h:attrOk a):2≤bins a∧bins a≤4:=by
 obtain⟨_,h⟩:=h
 unfold bins
 split at h
 ·rw[if_neg (by omega)];exact h.1
 ·rw[if_pos (by omega)];have:=h.2.1;omega
def fidxN (p:Nat→Bool):Nat→Nat→Int
 |_,0=> -1
 |i,f+1=>if p i=true then i else fidxN p (i+1) f
theorem fidxN_ex (p:Nat→Bool):∀(f i:Nat),0≤fidxN p i f↔∃j,i≤j∧j<i+f∧p j=true
 |0,i=>by simp[fidxN];intro j h1 h2;omega
 |f+1,i=>by
  unfold fidxN
  by_cases h:p i=true
  ·rw[if_pos h]
   exact⟨fun _=>⟨i,by omega,by omega,h⟩,fun _=>by omega⟩
  ·rw[if_neg h,fidxN_ex p f (i+1)]
   constructor
   ·rintro⟨j,h1,h2,h3⟩;exact⟨j,by omega,by omega,h3⟩
   ·rintro⟨j,h1,h2,h3⟩
    have:j≠i:=by rintro rfl;exact h h3
    exact⟨j,by omega,by omega,h3⟩
def ruleOk (r:DRule):Prop:=(1≤r.sure∧r.sure≤9)∧(0≤r.tie∧r.tie≤999)∧(1≤r.grace∧r.grace≤200)∧(0≤r.depth∧r.depth≤6)∧(1≤r.nodes∧r.nodes≤31)∧(62≤r.units∧r.units≤2000)
instance (r:DRule):Decidable (ruleOk r):=by unfold ruleOk;infer_instance
def confOk (c:DConf):Prop:=schemaOk c.schema∧ruleOk c.rule∧(1≤c.members∧c.members≤4)∧(1≤c.pick∧c.pick≤c.schema.attrs.length)∧(c.lambda=1∨c.lambda=6)∧(1≤c.warn∧c.warn≤9)∧(1≤c.drift∧c.drift≤9)∧c.warn≤c.drift
instance (c:DConf):Decidable (confOk c):=by unfold confOk;infer_instance
theorem rd_nl {w:World} {own:Own} {u:Bool} {es n:Nat} {f:Nat→Nat→AV} {v:Value} (h:Rd w own (.sl u none es n f) v):
 (n=0∧Rd w own (.sl u (some true) es n f) v)∨Rd w own (.sl u (some false) es n f) v:=by
 obtain⟨a,cap,rfl,h1,h2,h3,h4,h5⟩:=h
 cases a with
 |none=>
  have:=h4 rfl
  refine .inl ⟨by omega,none,cap,rfl,h1,h2,⟨fun _=>rfl,fun e=>by simp at e⟩,h4,h5⟩
 |some a=>exact .inr ⟨some a,cap,rfl,h1,h2,⟨fun e=>by simp at e,fun _=>by simp⟩,h4,h5⟩
theorem ACalls.nl1 {P:Program} {f:FuncId} {u:Bool} {es n:Nat} {g:Nat→Nat→AV} {R:RV→Prop} (h1:n=0→ACalls P f [.one (.sl u (some true) es n g)] R) (h2:ACalls P f [.one (.sl u (some false) es n g)] R):
 ACalls P f [.one (.sl u none es n g)] R:=by
 refine⟨h2.enter,fun own0 w vs hown hvs hargs=>?_⟩
 obtain⟨v,e1,e2⟩:=hargs 0 _ rfl
 rcases rd_nl (u:=u) e2 with ⟨hn,e3⟩|e3
 ·refine(h1 hn).calls own0 w vs hown hvs (fun i t ht=>?_)
  match i,ht with
  |0,ht=>cases ht;exact⟨v,e1,e3⟩
  |i+1,ht=>simp at ht
 ·refine h2.calls own0 w vs hown hvs (fun i t ht=>?_)
  match i,ht with
  |0,ht=>cases ht;exact⟨v,e1,e3⟩
  |i+1,ht=>simp at ht
def tot1:List Int→Int:=smI id
theorem tot1_take {l:List Int} {i:Nat} (h:i<l.length):tot1 (l.take (i+1))=tot1 (l.take i)+l.getD i 0:=smI_take h
theorem tot1_bd {l:List Int} {c:Int} (h:∀i,i<l.length→0≤l.getD i 0∧l.getD i 0≤c):0≤tot1 l∧tot1 l≤c*l.length:=
 smI_bd (f:=id) (c:=c) (fun x hx=>by
  obtain⟨i,hi,rfl⟩:=List.getElem_of_mem hx
  have:=h i hi
  simpa [List.getD,hi] using this)
theorem tot1_take_bd {l:List Int} {c:Int} (hc:0≤c) (h:∀i,i<l.length→0≤l.getD i 0∧l.getD i 0≤c) (i:Nat):0≤tot1 (l.take i)∧tot1 (l.take i)≤c*l.length:=by
 have h1:∀x∈l,0≤id x∧id x≤c:=fun x hx=>by
  obtain⟨i,hi,rfl⟩:=List.getElem_of_mem hx
  have:=h i hi
  simpa [List.getD,hi] using this
 have:=smI_bd (f:=id) (c:=c) (l:=l.take i) (fun x hx=>h1 x (List.mem_of_mem_take hx))
 have e:c*((l.take i).length:Int)≤c*l.length:=Int.mul_le_mul_of_nonneg_left (by rw[List.length_take];omega) hc
 unfold tot1
 omega
theorem tot1_pre {l:List Int} {c:Int}:∀{k:Nat},k≤l.length→(∀j,j<k→0≤l.getD j 0∧l.getD j 0≤c)→0≤tot1 (l.take k)∧tot1 (l.take k)≤c*k
 |0,_,_=>by simp[tot1,smI]
 |k+1,hk,h=>by
  have:=tot1_pre (l:=l) (c:=c) (k:=k) (by omega) (fun j hj=>h j (by omega))
  have h2:=h k (by omega)
  rw[tot1_take (by omega)]
  have e:c*((k+1:Nat):Int)=c*k+c:=by rw[Int.natCast_add,Int.natCast_one,Int.mul_add,Int.mul_one]
  omega
def mxS (l:List Int):Nat→Int
 |0=>l.getD 0 0
 |i+1=>if l.getD i 0>mxS l i then l.getD i 0 else mxS l i
def mx (l:List Int):Int:=mxS l l.length
def topS (l:List Int):Nat→Int
 |0=> -1
 |i+1=>if topS l i<0∨l.getD (topS l i).toNat 0<l.getD i 0 then i else topS l i
theorem mxS_succ (l:List Int) (i:Nat):mxS l (i+1)=if l.getD i 0>mxS l i then l.getD i 0 else mxS l i:=rfl
theorem topS_succ (l:List Int) (i:Nat):topS l (i+1)=if topS l i<0∨l.getD (topS l i).toNat 0<l.getD i 0 then (i:Int) else topS l i:=rfl
def topOf (l:List Int):Int:=topS l l.length
theorem topS_inv (l:List Int):∀i,0<i→∃j:Nat,j<i∧topS l i=j∧l.getD j 0=mxS l i∧(∀j',j'<j→l.getD j' 0<l.getD j 0)∧∀j',j'<i→l.getD j' 0≤mxS l i
 |0,h=>by omega
 |i+1,_=>by
  by_cases h0:i=0
  ·subst h0
   refine⟨0,by omega,by simp[topS],by simp[mxS],fun j' hj=>by omega,fun j' hj=>?_⟩
   obtain rfl:j'=0:=by omega
   simp[mxS]
  ·obtain⟨j,h1,h2,h3,h4,h5⟩:=topS_inv l i (by omega)
   by_cases hc:l.getD j 0<l.getD i 0
   ·have e1:topS l (i+1)=i:=by
     rw[topS_succ,h2,if_pos (.inr (by simpa using hc))]
    have e2:mxS l (i+1)=l.getD i 0:=by
     rw[mxS_succ,if_pos (by omega)]
    refine⟨i,by omega,e1,e2.symm,fun j' hj=>?_,fun j' hj=>?_⟩
    ·have:=h5 j' hj;omega
    ·rw[e2]
     by_cases e:j'=i
     ·rw[e];exact Int.le_refl _
     ·have:=h5 j' (by omega);omega
   ·have e1:topS l (i+1)=j:=by
     rw[topS_succ,h2,if_neg (by rintro(h|h);omega;exact hc (by simpa using h))]
    have e2:mxS l (i+1)=mxS l i:=by
     rw[mxS_succ,if_neg (by omega)]
    refine⟨j,by omega,e1,by rw[e2];exact h3,h4,fun j' hj=>?_⟩
    rw[e2]
    by_cases e:j'=i
    ·subst e;omega
    ·exact h5 j' (by omega)
theorem fidxN_first {p:Nat→Bool}:∀{f i j:Nat},i≤j→j<i+f→p j=true→(∀k,i≤k→k<j→p k=false)→fidxN p i f=j
 |0,i,j,h1,h2,_,_=>by omega
 |f+1,i,j,h1,h2,h3,h4=>by
  unfold fidxN
  by_cases e:i=j
  ·subst e;rw[if_pos h3]
  ·rw[if_neg (by rw[h4 i (by omega) (by omega)];simp)]
   exact fidxN_first (by omega) (by omega) h3 (fun k hk1 hk2=>h4 k (by omega) hk2)
theorem top_fidx {l:List Int} (h:l.length≠0):fidxN (fun j=>decide (l.getD j 0=mx l)) 0 l.length=topOf l:=by
 obtain⟨j,h1,h2,h3,h4,h5⟩:=topS_inv l l.length (by omega)
 unfold topOf mx
 rw[h2]
 refine fidxN_first (by omega) (by omega) (by simpa using h3) (fun k _ hk=>?_)
 have:=h4 k hk
 exact decide_eq_false (by show ¬l.getD k 0=mxS l l.length;omega)
theorem top_mx {l:List Int} (h:l.length≠0):∃j:Nat,j<l.length∧topOf l=j∧l.getD j 0=mx l:=by
 obtain⟨j,h1,h2,h3,_⟩:=topS_inv l l.length (by omega)
 exact⟨j,h1,h2,h3⟩
def wts (l:List Int) (n:Int):Prop:=(l.length:Int)=n∧∀i,i<l.length→0≤l.getD i 0∧l.getD i 0≤999
instance (l:List Int) (n:Int):Decidable (wts l n):=by unfold wts;infer_instance
def colS (l:List Int) (c k:Nat):Nat→Int
 |0=>0
 |m+1=>colS l c k m+if m % c=k then l.getD m 0 else 0
theorem colS_succ (l:List Int) (c k m:Nat):colS l c k (m+1)=colS l c k m+if m % c=k then l.getD m 0 else 0:=rfl
theorem colS_block {l:List Int} {c k:Nat} (hk:k<c) (B:Nat):∀r,r≤c→colS l c k (B*c+r)=colS l c k (B*c)+if k<r then l.getD (B*c+k) 0 else 0
 |0,_=>by simp
 |r+1,hr=>by
  have ih:=colS_block (l:=l) hk B r (by omega)
  have e:(B*c+r) % c=r:=by
   rw[Nat.mul_comm,Nat.mul_add_mod,Nat.mod_eq_of_lt (by omega)]
  rw[←Nat.add_assoc,colS,ih,e]
  by_cases h1:r=k
  ·subst h1;rw[if_neg (by omega),if_pos rfl,if_pos (by omega)];omega
  ·rw[if_neg h1]
   by_cases h2:k<r
   ·rw[if_pos h2,if_pos (by omega)];omega
   ·rw[if_neg h2,if_neg (by omega)];omega
theorem colS_row {l:List Int} {c k:Nat} (hk:k<c) (B:Nat):colS l c k ((B+1)*c)=colS l c k (B*c)+l.getD (B*c+k) 0:=by
 have:=colS_block (l:=l) hk B c (Nat.le_refl _)
 rw[if_pos hk] at this
 rw[Nat.add_mul,Nat.one_mul]
 exact this
theorem colS_mono {l:List Int} {c k:Nat} (h:∀i,i<l.length→0≤l.getD i 0∧l.getD i 0≤999):∀{m n:Nat},m≤n→n≤l.length→colS l c k m≤colS l c k n
 |m,0,h1,_=>by have:m=0:=by omega
               rw[this];exact Int.le_refl _
 |m,n+1,h1,h2=>by
  by_cases e:m=n+1
  ·rw[e];exact Int.le_refl _
  ·have:=colS_mono h (c:=c) (k:=k) (m:=m) (n:=n) (by omega) (by omega)
   have h3:=h n (by omega)
   rw[colS_succ]
   split<;>omega
theorem colS_bd {l:List Int} {c k:Nat} (h:∀i,i<l.length→0≤l.getD i 0∧l.getD i 0≤999):∀{m:Nat},m≤l.length→0≤colS l c k m∧colS l c k m≤999*m
 |0,_=>by simp[colS]
 |m+1,hm=>by
  have:=colS_bd h (c:=c) (k:=k) (m:=m) (by omega)
  have h3:=h m (by omega)
  rw[colS_succ]
  split<;>omega
def cellsOk (s:DSchema) (t:DStats) (i:Nat):Prop:=wts (t.cells.getD i []) (bins (s.attrs.getD i default)*s.classes.length)∧∀k,k<s.classes.length→colS (t.cells.getD i []) s.classes.length k (t.cells.getD i []).length≤t.totals.getD k 0
instance (s:DSchema) (t:DStats) (i:Nat):Decidable (cellsOk s t i):=by unfold cellsOk;infer_instance
def statsOk (s:DSchema) (t:DStats):Prop:=schemaOk s∧wts t.totals s.classes.length∧tot1 t.totals≤999∧(t.cells.length=0∨t.cells.length=s.attrs.length∧∀i,i<t.cells.length→cellsOk s t i)
instance (s:DSchema) (t:DStats):Decidable (statsOk s t):=by unfold statsOk;infer_instance
def promise (s:DSchema) (t:DStats):Int:=if statsOk s t then tot1 t.totals - mx t.totals else 0
def forkOk (s:DSchema) (f:DFork):Prop:=schemaOk s∧(0≤f.attr∧f.attr≤(s.attrs.length:Int) - 1)∧(-1≤f.at_∧f.at_≤(if 0<(s.attrs.getD f.attr.toNat default).cuts.length then (bins (s.attrs.getD f.attr.toNat default):Int) - 2 else (bins (s.attrs.getD f.attr.toNat default):Int) - 1))
instance (s:DSchema) (f:DFork):Decidable (forkOk s f):=by unfold forkOk;infer_instance
def branches (s:DSchema) (f:DFork):Nat:=if forkOk s f then (if f.at_= -1 then bins (s.attrs.getD f.attr.toNat default) else 2) else 0
def branchOf (s:DSchema) (f:DFork) (bin:Int):Int:=
 if forkOk s f∧0≤bin∧bin≤(bins (s.attrs.getD f.attr.toNat default):Int) - 1 then
  (if f.at_= -1 then bin else if bin=f.at_∨0<(s.attrs.getD f.attr.toNat default).cuts.length∧bin<f.at_ then 0 else 1)
 else -1
def attrsOk (s:DSchema) (l:List Int):Prop:=schemaOk s∧0<l.length∧asc l∧∀i,i<l.length→0≤l.getD i 0∧l.getD i 0≤(s.attrs.length:Int) - 1
instance (s:DSchema) (l:List Int):Decidable (attrsOk s l):=by unfold attrsOk;infer_instance
theorem asc_le {l:List Int} (h:asc l):∀{i j:Nat},i≤j→j<l.length→l.getD i 0≤l.getD j 0
 |i,0,h1,_=>by have:i=0:=by omega
               rw[this];exact Int.le_refl _
 |i,j+1,h1,h2=>by
  by_cases e:i=j+1
  ·rw[e];exact Int.le_refl _
  ·have:=asc_le h (i:=i) (j:=j) (by omega) (by omega)
   have:=h j (by omega)
   omega
def brS (l:List Int) (c:Nat) (q:Nat→Bool) (k:Nat):Nat→Int
 |0=>0
 |m+1=>brS l c q k m+if m % c=k∧q (m / c)=true then l.getD m 0 else 0
theorem brS_succ (l:List Int) (c:Nat) (q:Nat→Bool) (k m:Nat):brS l c q k (m+1)=brS l c q k m+if m % c=k∧q (m / c)=true then l.getD m 0 else 0:=rfl
theorem brS_block {l:List Int} {c k:Nat} {q:Nat→Bool} (hk:k<c) (B:Nat):∀r,r≤c→brS l c q k (B*c+r)=brS l c q k (B*c)+if k<r∧q B=true then l.getD (B*c+k) 0 else 0
 |0,_=>by simp
 |r+1,hr=>by
  have ih:=brS_block (l:=l) (q:=q) hk B r (by omega)
  have e:(B*c+r) % c=r:=by
   rw[Nat.mul_comm,Nat.mul_add_mod,Nat.mod_eq_of_lt (by omega)]
  have e2:(B*c+r) / c=B:=by
   rw[Nat.mul_comm,Nat.mul_add_div (by omega),Nat.div_eq_of_lt (by omega),Nat.add_zero]
  rw[←Nat.add_assoc,brS_succ,ih,e,e2]
  cases hq:q B with
  |false=>simp
  |true=>
   simp only[and_true]
   by_cases h1:r=k
   ·subst h1;rw[if_neg (by omega),if_pos rfl,if_pos (by omega)];omega
   ·rw[if_neg h1]
    by_cases h2:k<r
    ·rw[if_pos h2,if_pos (by omega)];omega
    ·rw[if_neg h2,if_neg (by omega)];omega
theorem brS_row {l:List Int} {c k:Nat} {q:Nat→Bool} (hk:k<c) (B:Nat):brS l c q k ((B+1)*c)=brS l c q k (B*c)+if q B=true then l.getD (B*c+k) 0 else 0:=by
 have:=brS_block (l:=l) (q:=q) hk B c (Nat.le_refl _)
 rw[Nat.add_mul,Nat.one_mul,this]
 cases hq:q B with
 |false=>simp
 |true=>simp only[and_true,hk,if_true]
theorem brS_bd {l:List Int} {c k:Nat} {q:Nat→Bool} (h:∀i,i<l.length→0≤l.getD i 0∧l.getD i 0≤999):∀{m:Nat},m≤l.length→0≤brS l c q k m∧brS l c q k m≤999*m
 |0,_=>by simp[brS]
 |m+1,hm=>by
  have:=brS_bd h (c:=c) (k:=k) (q:=q) (m:=m) (by omega)
  have h3:=h m (by omega)
  rw[brS_succ]
  split<;>omega
def brL (l:List Int) (c:Nat) (q:Nat→Bool) (m:Nat):List Int:=(List.range c).map fun k=>brS l c q k m
theorem brL_len {l:List Int} {c m:Nat} {q:Nat→Bool}:(brL l c q m).length=c:=by simp[brL]
theorem brL_get {l:List Int} {c m k:Nat} {q:Nat→Bool} (h:k<c):(brL l c q m).getD k 0=brS l c q k m:=by simp[brL,List.getD,h]
def btQ (s:DSchema) (f:DFork) (i:Int) (b:Nat):Bool:=decide (branchOf s f b=i)
def btL (s:DSchema) (t:DStats) (f:DFork) (i:Int):List Int:=brL (t.cells.getD f.attr.toNat []) s.classes.length (btQ s f i) (t.cells.getD f.attr.toNat []).length
def heaviest (s:DSchema) (t:DStats) (f:DFork):Int:=if statsOk s t∧t.cells.length≠0 then topOf ((List.range (branches s f)).map fun (i:Nat)=>tot1 (btL s t f (i:Int))) else -1
theorem brLe {l:List Int} {c m:Nat} {q:Nat→Bool} {nl:Option Bool} (_:0<c) (hq:q (m / c)=true):ALe (.sl true nl 1 c (fun i j=>if i=m % c∧0≤j∧j<0+1 then gl .junk [.int .i64 (brS l c q (m % c) m+l.getD m 0)] (j - 0) else fI (brL l c q m) i j)) (.sl true nl 1 c (fI (brL l c q (m+1)))):=by
 refine ALe.of (.inr rfl) rfl (fun i hi j hj=>?_)
 obtain rfl:j=0:=by omega
 by_cases e:i=m % c
 ·subst e
  rw[if_pos ⟨rfl,by omega,by omega⟩,fI_at,brL_get hi,brS_succ,if_pos ⟨rfl,hq⟩]
  exact .refl _
 ·rw[if_neg (fun h=>e h.1),fI_at,fI_at,brL_get hi,brL_get hi,brS_succ,if_neg (fun h=>e h.1.symm),Int.add_zero]
  exact .refl _
theorem brLe2 {l:List Int} {c m:Nat} {q:Nat→Bool} {nl:Option Bool} (hq:q (m / c)=false):ALe (.sl true nl 1 c (fI (brL l c q m))) (.sl true nl 1 c (fI (brL l c q (m+1)))):=by
 refine ALe.of (.inr rfl) rfl (fun i hi j hj=>?_)
 obtain rfl:j=0:=by omega
 rw[fI_at,fI_at,brL_get hi,brL_get hi,brS_succ,if_neg (by rw[hq];simp),Int.add_zero]
 exact .refl _
theorem br0 {l:List Int} {c:Nat} {q:Nat→Bool} {nl:Option Bool} {g:Nat→Nat→AV} (h:∀i,i<c→g i 0=.int .i64 0):ALe (.sl true nl 1 c g) (.sl true nl 1 c (fI (brL l c q 0))):=by
 refine ALe.of (.inr rfl) rfl (fun i hi j hj=>?_)
 obtain rfl:j=0:=by omega
 rw[fI_at,brL_get hi,h i hi]
 exact .refl _
def leafOk (n:DNode):Prop:=(n.fork.attr=0∧n.fork.at_=0)∧n.kids.length=0∧n.miss=0∧0≤n.since∧n.since≤(if n.stats.cells.length=0 then 0 else tot1 n.stats.totals)
instance (n:DNode):Decidable (leafOk n):=by unfold leafOk;infer_instance
def kidOk (t:DTree) (i:Nat) (x:Int):Prop:=((i:Int)+1≤x∧x≤(t.nodes.length:Int) - 1)∧(t.nodes.getD x.toNat default).up=i
instance (t:DTree) (i:Nat) (x:Int):Decidable (kidOk t i x):=by unfold kidOk;infer_instance
def splitOk (s:DSchema) (t:DTree) (i:Nat) (n:DNode):Prop:=forkOk s n.fork∧n.kids.length=branches s n.fork∧asc n.kids∧(0≤n.miss∧n.miss≤(n.kids.length:Int) - 1)∧n.stats.cells.length=0∧n.since=0∧∀k,k<n.kids.length→kidOk t i (n.kids.getD k 0)
instance (s:DSchema) (t:DTree) (i:Nat) (n:DNode):Decidable (splitOk s t i n):=by unfold splitOk;infer_instance
def nodeOk (s:DSchema) (t:DTree) (i:Nat) (n:DNode):Prop:=((0≤n.depth∧n.depth≤6)∧(0≤n.born∧n.born≤t.seen)∧statsOk s n.stats∧attrsOk s n.attrs)∧if n.leaf=true then leafOk n else splitOk s t i n
instance (s:DSchema) (t:DTree) (i:Nat) (n:DNode):Decidable (nodeOk s t i n):=by unfold nodeOk;infer_instance
def linkOk (t:DTree) (i:Nat) (n:DNode):Prop:=if i=0 then n.up= -1∧n.depth=0∧n.born=0 else
 (0≤n.up∧n.up≤(i:Int) - 1)∧(t.nodes.getD n.up.toNat default).leaf=false∧(∃j,j<(t.nodes.getD n.up.toNat default).kids.length∧(t.nodes.getD n.up.toNat default).kids.getD j 0=i)∧(t.nodes.getD n.up.toNat default).depth=n.depth - 1∧(t.nodes.getD n.up.toNat default).born≤n.born
instance (t:DTree) (i:Nat) (n:DNode):Decidable (linkOk t i n):=by unfold linkOk;infer_instance
def treeOk (s:DSchema) (t:DTree):Prop:=schemaOk s∧(1≤t.nodes.length∧t.nodes.length≤31)∧(0≤t.seen∧t.seen≤99999)∧∀i,i<t.nodes.length→nodeOk s t i (t.nodes.getD i default)∧linkOk t i (t.nodes.getD i default)
instance (s:DSchema) (t:DTree):Decidable (treeOk s t):=by unfold treeOk;infer_instance
end Go.AM
/- Marks:what the laws' mark functions write,in plain Lean. -/
namespace Go.AM
open Go
section
variable {α:Type}
variable {sz:α→Nat} {mk:Int→α→α} {d:α}
end
def nNode (x:DNode):Nat:=8+x.kids.length+x.stats.totals.length+tot x.stats.cells+x.attrs.length
theorem appLe2 {α:Type} {cs:α→List AV} {d:α} {l m:List α} {x:α} {ys:List AV} {nl nl':Option Bool} {es n:Nat} (hn:n=l.length) (hm:m=l++[x]) (hy:∀j,j<es→ALe (gl .junk ys j) (gl .junk (cs x) j)) (hl:nl'=none∨nl'=nl):
 ALe (.sl true nl es (n+1) (apF n (gf cs d l) (rowsF [ys]))) (.sl true nl' es m.length (gf cs d m)):=by
 subst hm hn
 refine ALe.of hl (by simp) (fun i hi j hj=>?_)
 unfold apF gf
 by_cases h:i<l.length
 ·rw[if_pos h,getD_app,if_pos h];exact .refl _
 ·have e:i=l.length:=by omega
  subst e
  rw[if_neg h,getD_app,if_neg h]
  simpa [rowsF,gl] using hy j hj
theorem zrow {nl nl':Option Bool} (m:Nat) (f:Nat→Nat→AV) (hf:∀i,i<m→f i 0=.int .i64 0) (hl:nl'=none∨nl'=nl):ALe (.sl true nl 1 m f) (.sl true nl' 1 (List.replicate m (0:Int)).length (fI (List.replicate m 0))):=by
 refine ALe.of hl (by simp) (fun i hi j hj=>?_)
 obtain rfl:j=0:=by omega
 have:(List.replicate m (0:Int)).getD i 0=0:=by rw[List.getD_eq_getElem?_getD];simp[hi]
 rw[hf i hi,fI_at,this]
 exact .refl _
theorem fI_rep (m:Nat) {i:Nat} (hi:i<m):fI (List.replicate m 0) i 0=.int .i64 0:=by
 have:(List.replicate m (0:Int)).getD i 0=0:=by rw[List.getD_eq_getElem?_getD];simp[hi]
 rw[fI_at,this]
end Go.AM
