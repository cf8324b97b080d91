/-
  The closed facts of the row and of the card of ClausesWithout, one by one. Own text, written by program.
-/
import Derived.Test.YtjcpnonpiiipgaaGreatDoorRows
import Derived.Test.YtjcpnonpiiipgaaGreatDoorCards
import Derived.JoinedOf
import Derived.SevenTiedAt
import Derived.KernelRfl
import Derived.Test.YtjcpnonpiiipgaaGreatDoorClo
set_option linter.all false
namespace Go.Proofs.YtjcpnonpiiipgaaGreatDoor.clausesWithout
set_option maxRecDepth 100000
open Go.Exo
def clo:List Nat:=[3,4,10,5,11,18,19,38,70,6,12,20,40,41,76,121,184,272,273,286,284,274,74,101,167,75,360,280,369,458,535,370,459,449,289,372,462,450,198,105,175,461,536,578,607,587,612,527,528,529,537,588,613,589,590,575,606,591,538,592,614,621,622,460,448,521,565,566,567,602,188,279,78,285,361,454,530,531,532,278,276,77,132,133,194,131,193,363,365,364,366,367,455,186,368,456,533,579,580,608,581,582,609,583,584,610,191,585,586,611,534,457,277,362,275,185,187,122,123,124,189,281,282,125,126,190,283,127,128,129,192,130,39,71,72,119,120,183,182,270,271,358,447,520,359,451,522,568,569,523,570,603,571,572,605,620,595,616,617,267,625,626,618,619,627,628,629,630,604,573,452,524,574,525,576,453,526,577,73,21,42,79,80,134,195,196,287,371,63,28,58,108,30,59,60,102,103,61,104,288,197,81,135,136,199,200,116,181,43,36,82,16,37,44,45,83,137,138,84,139,140,201,290,22,23,25,46,53,26,47,85,48,86,49,50,87,141,202,142,143,203,206,300,377,378,379,67,64,110,109,177,111,112,178,269,114,179,115,180,113,380,382,381,464,291,308,385,316,160,386,204,293,292,373,205,294,295,214,306,296,298,297,374,299,376,375,463,207,301,234,330,208,209,303,302,383,210,212,213,211,305,304,384,215,307,309,310,311,312,387,388,389,390,313,314,315,88,90,144,146,221,220,147,148,89,216,145,218,219,57,217,149,150,151,222,27,223,317,391,465,539,593,615,623,624,392,466,540,594,541,542,543,596,468,393,467,544,597,394,395,51,24,55,99,54,97,172,98,174,266,173,258,259,353,260,354,355,261,356,357,446,262,263,264,265,56,100,52,91,153,152,224,225,226,318,229,396,398,469,397,319,320,399,164,233,241,242,243,335,410,484,434,411,485,470,486,488,428,412,473,487,413,489,414,415,427,494,251,344,442,345,416,417,490,552,559,560,418,419,491,244,247,338,423,492,424,425,493,348,553,343,426,429,333,407,475,476,548,477,478,549,550,599,479,480,481,482,430,495,246,432,496,431,436,433,435,437,438,439,497,498,440,499,500,554,555,501,502,503,504,505,556,506,557,600,507,558,508,509,227,321,322,400,163,245,336,420,421,337,422,323,329,32,228,324,401,326,327,403,472,255,471,546,545,598,404,325,402,155,232,231,328,405,406,474,547,65,69,154,230,92,156,93,157,235,236,331,332,237,13,29,31,62,106,107,176,268,33,66,34,68,117,118,158,159,161,239,238,334,408,409,483,551,162,240,94,165,248,249,341,441,510,511,561,512,513,562,563,601,514,515,516,517,342,339,340,250,166,95,168,252,346,347,443,518,253,169,254,349,350,351,352,444,445,519,564,96,170,256,171,257,7,14,15,35,9,17,8]
theorem clo_n:1+(Tryz.prog.funcs.toList.map fun g=>(Tryz.prog.leadsTo g).length+1).sum=2130:=by kernel_rfl
theorem clo_l:cloAll (Tryz.prog.funcs.toList.map Tryz.prog.leadsTo) 2130 3=clo:=by kernel_rfl
theorem clo_eq:Tryz.prog.closure 3=clo:=closure_of clo_n clo_l
theorem ip_eq:Tryz.prog.inPlace 3=Rows.clausesWithoutRow.inPlace:=inPlace_of clo_eq (by kernel_rfl)
theorem unf_eq:Tryz.prog.unfollowed 3=true:=unfollowed_of (g:=39) clo_eq (by kernel_rfl) (by kernel_rfl)
theorem vn_eq:Tryz.prog.varsNamed 3=Rows.clausesWithoutRow.named:=varsNamed_of clo_eq (by kernel_rfl)
theorem goes_no:Tryz.prog.funcs.toList.any Func.goes=false:=by kernel_rfl
theorem k_wf:Rows.clausesWithoutRow.wf (OpenSpec.ofChange Rows.clausesWithoutSpec)=true:=by kernel_rfl
theorem k_laid:laidOutB Tryz.prog=true:=by kernel_rfl
theorem k_maps:mapsRowed Tryz.prog=true:=by kernel_rfl
theorem k_read:Tryz.f3.params.all (Tryz.prog.readableRec ·)=true:=by kernel_rfl
theorem k_tie:namedTie Tryz.prog Rows.clausesWithoutRow.named Rows.clausesWithoutSpec.vars=true:=by kernel_rfl
theorem k_inPlace:(Rows.clausesWithoutRow.inPlace==Tryz.prog.inPlace 3)=true:=by rw[ip_eq];exact beq_self_eq_true _
theorem k_unf:(Rows.clausesWithoutRow.unfollowed==Tryz.prog.unfollowed 3)=true:=by rw[unf_eq];rfl
theorem k_rec:(Rows.clausesWithoutRow.recurses==Tryz.prog.recurses 3)=true:=by rw[recurses_of unf_eq];rfl
theorem k_named:(Rows.clausesWithoutRow.named==Tryz.prog.varsNamed 3)=true:=by rw[vn_eq];exact beq_self_eq_true _
theorem k_pk:(Rows.clausesWithoutRow.plainKeys==Tryz.prog.plainKeys)=true:=by kernel_rfl
theorem k_sh:Tryz.prog.stopsHeard=true:=by kernel_rfl
theorem k_me:Tryz.prog.mayEnter=true:=by kernel_rfl
theorem k_lf:(Rows.clausesWithoutRow.lifted==Tryz.prog.liftsFinal)=true:=by kernel_rfl
theorem k_mk:(Tryz.prog.make==some Rows.clausesWithoutRow.make)=true:=by kernel_rfl
theorem k_stops:(Tryz.prog.stops==[])=true:=by kernel_rfl
theorem k_knobs:(Tryz.prog.stopKnobs==[])=true:=by kernel_rfl
theorem k_own:ownKnob Tryz.prog.godebug=none:=by kernel_rfl
theorem k_mainIs:Tryz.prog.mainIs=some (Rows.clausesWithoutCard.stood.harness.1,Rows.clausesWithoutCard.stood.harness.2.toList):=by kernel_rfl
theorem k_looks:true=Tryz.prog.looks []:=by kernel_rfl
theorem k_fnamed:Tryz.prog.funcNamed Rows.clausesWithoutRow.func=some 3:=by kernel_rfl
theorem k_goes:false=Rows.clausesWithoutRow.goesBy Tryz.prog:=(goesAt_of goes_no _ _).symm
theorem k_wft:Rows.clausesWithoutRow.wfByText (OpenSpec.ofChange Rows.clausesWithoutSpec)=true:=by kernel_rfl
theorem k_inst:Tryz.f3.isInstance Tryz.prog Rows.clausesWithoutRow.origin Rows.clausesWithoutRow.targs:=of_decide_eq_true (by kernel_rfl)
theorem closed:joinedFacts Tryz.prog 3 Tryz.f3 Rows.clausesWithoutSpec Rows.clausesWithoutRow=true:=by
 unfold joinedFacts
 simp only[Bool.and_eq_true]
 repeat' apply And.intro
 ·exact k_wf
 ·exact k_laid
 ·exact k_maps
 ·exact k_read
 ·exact k_tie
 ·kernel_rfl
 ·exact k_stops
 ·kernel_rfl
 ·exact k_knobs
 ·exact k_inPlace
 ·exact k_unf
 ·exact k_rec
 ·exact k_named
 ·kernel_rfl
 ·kernel_rfl
 ·kernel_rfl
 ·kernel_rfl
 ·kernel_rfl
 ·kernel_rfl
 ·kernel_rfl
 ·kernel_rfl
 ·kernel_rfl
 ·exact k_pk
 ·kernel_rfl
 ·exact k_sh
 ·exact k_me
 ·exact k_lf
 ·exact k_mk
 ·kernel_rfl
 ·kernel_rfl
 ·kernel_rfl
 ·kernel_rfl
end Go.Proofs.YtjcpnonpiiipgaaGreatDoor.clausesWithout
